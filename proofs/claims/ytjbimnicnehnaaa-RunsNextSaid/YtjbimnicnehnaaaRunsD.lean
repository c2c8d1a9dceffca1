/- Sets of blocks as the program keeps them (runs): put, cut, both, walked. -/
import Derived.Test.YtjbimnicnehnaaaRunsB
import Derived.Test.YtjbimnicnehnaaaAx0
import Derived.Test.YtjbimnicnehnaaaAx6
import Derived.Test.YtjbimnicnehnaaaAx7
import Derived.Test.YtjbimnicnehnaaaAx8
namespace Go.Proofs.Ytjbimnicnehnaaa.Hand
open Go.RowKit Go.Proofs.YtjbimnicnehnaaaW.PrintWords Go.Proofs.YtjbimnicnehnaaaW.PrintLast Go.Proofs.YtjbimnicnehnaaaW.PrintMore Go.Proofs.Ytjbimnicnehnaaa.A
set_option linter.unusedVariables false
set_option linter.unusedSimpArgs false
attribute [local go_sem] max2_int min2_int max_two min_two max_three min_three max_four min_four
theorem add_block (a : Addr) (j : Nat) : (a.add j).block = a.block := by unfold Addr.add; split <;> rfl
/-- A row (if there is one) is not in a block. -/
def Off (A : Option Addr) (n g : Nat) : Prop := 0 < n → ∀ a, A = some a → a.block ≠ g
theorem off_lt {w : World} {n g : Nat} {A : Option Addr} {l : List S24} (h : Kd.C k24 w A n l) (hg : w.heap.size ≤ g) : Off A n g := by
  intro hn a ha e
  obtain ⟨ad, he, x0, _⟩ := at_T24 h 0 (Int.le_refl _) (by omega)
  rw [ha] at he
  injection he with he
  subst he
  have := World.block_lt_of_cell? _ _ x0
  simp only [add_block] at this
  omega
theorem off_row {w : World} {base g : Nat} {A : Option Addr} {c : Nat} {l : List S24} (h : ORow w base (.slice A l.length c) l) (hg : g < base) : Off A l.length g := by
  intro hn a ha e
  subst ha
  have := own_base h a.block (by rfl)
  omega
theorem C_only {w w1 : World} {g n : Nat} {A : Option Addr} {l : List S24} (h : Kd.C k24 w A n l) (ho : Only w w1 g) (hne : Off A n g) : Kd.C k24 w1 A n l := by
  refine ⟨h.1, h.2.1, fun hn => ?_⟩
  obtain ⟨ad, e, hc⟩ := h.2.2 hn
  refine ⟨ad, e, fun j p hj => ?_⟩
  obtain ⟨c, h1, h2, h3⟩ := hc j p hj
  refine ⟨c, h1, ?_, fun i u hu => keepO ho (h3 i u hu) (by rw [add_block]; exact hne hn ad e)⟩
  rw [k24_open h2]; exact k24_mk w1 p
def putOneV (l : List S24) (s : S24) : List S24 := if wh s.f0 s.f1 then addV l s else l
def putV (l ls : List S24) : List S24 := ls.foldl putOneV l
def cutOneV (l : List S24) (s : S24) : List S24 := if wh s.f0 s.f1 then cutV l s else l
def cutAllV (l ls : List S24) : List S24 := ls.foldl cutOneV l
/-- Blocks of whole spans. -/
def wmem (ls : List S24) (k : Int) : Prop := ∃ s ∈ ls, wh s.f0 s.f1 ∧ inSp s k
theorem putV_spec : ∀ (ls l : List S24), Tidy 0 l → Tidy 0 (putV l ls) ∧ ∀ k, mem (putV l ls) k ↔ mem l k ∨ wmem ls k
  | [], l, h => ⟨h, fun k => by show mem l k ↔ _; unfold wmem; simp⟩
  | s :: ls, l, h => by
    show Tidy 0 (putV (putOneV l s) ls) ∧ ∀ k, mem (putV (putOneV l s) ls) k ↔ _
    unfold putOneV wmem
    by_cases hs : wh s.f0 s.f1
    · rw [if_pos hs]
      obtain ⟨a1, a2⟩ := addV_spec h hs
      obtain ⟨b1, b2⟩ := putV_spec ls _ a1
      refine ⟨b1, fun k => ?_⟩
      rw [b2 k, a2 k]
      unfold wmem
      constructor
      · rintro ((h | h) | ⟨x, h1, h2⟩)
        · exact .inl h
        · exact .inr ⟨s, List.mem_cons_self, hs, h⟩
        · exact .inr ⟨x, List.mem_cons_of_mem _ h1, h2⟩
      · rintro (h | ⟨x, h1, h2⟩)
        · exact .inl (.inl h)
        · rcases List.mem_cons.1 h1 with rfl | h1
          · exact .inl (.inr h2.2)
          · exact .inr ⟨x, h1, h2⟩
    · rw [if_neg hs]
      obtain ⟨b1, b2⟩ := putV_spec ls _ h
      refine ⟨b1, fun k => ?_⟩
      rw [b2 k]
      unfold wmem
      constructor
      · rintro (h | ⟨x, h1, h2⟩)
        · exact .inl h
        · exact .inr ⟨x, List.mem_cons_of_mem _ h1, h2⟩
      · rintro (h | ⟨x, h1, h2⟩)
        · exact .inl h
        · rcases List.mem_cons.1 h1 with rfl | h1
          · exact absurd h2.1 hs
          · exact .inr ⟨x, h1, h2⟩
theorem cutAllV_spec : ∀ (ls l : List S24), Tidy 0 l → Tidy 0 (cutAllV l ls) ∧ ∀ k, mem (cutAllV l ls) k ↔ mem l k ∧ ¬ wmem ls k
  | [], l, h => ⟨h, fun k => by show mem l k ↔ _; unfold wmem; simp⟩
  | s :: ls, l, h => by
    show Tidy 0 (cutAllV (cutOneV l s) ls) ∧ ∀ k, mem (cutAllV (cutOneV l s) ls) k ↔ _
    unfold cutOneV wmem
    by_cases hs : wh s.f0 s.f1
    · rw [if_pos hs]
      obtain ⟨a1, a2⟩ := cutV_spec hs (Int.le_refl _) h
      obtain ⟨b1, b2⟩ := cutAllV_spec ls _ a1
      refine ⟨b1, fun k => ?_⟩
      rw [b2 k, a2 k]
      unfold wmem
      constructor
      · rintro ⟨⟨h, h'⟩, h2⟩
        refine ⟨h, ?_⟩
        rintro ⟨x, h1, h3⟩
        rcases List.mem_cons.1 h1 with rfl | h1
        · exact h' h3.2
        · exact h2 ⟨x, h1, h3⟩
      · rintro ⟨h, h'⟩
        exact ⟨⟨h, fun hk => h' ⟨s, List.mem_cons_self, hs, hk⟩⟩, fun ⟨x, h1, h2⟩ => h' ⟨x, List.mem_cons_of_mem _ h1, h2⟩⟩
    · rw [if_neg hs]
      obtain ⟨b1, b2⟩ := cutAllV_spec ls _ h
      refine ⟨b1, fun k => ?_⟩
      rw [b2 k]
      unfold wmem
      constructor
      · rintro ⟨h, h2⟩
        refine ⟨h, ?_⟩
        rintro ⟨x, h1, h3⟩
        rcases List.mem_cons.1 h1 with rfl | h1
        · exact hs h3.1
        · exact h2 ⟨x, h1, h3⟩
      · rintro ⟨h, h'⟩
        exact ⟨h, fun ⟨x, h1, h2⟩ => h' ⟨x, List.mem_cons_of_mem _ h1, h2⟩⟩
set_option maxRecDepth 100000 in
set_option maxHeartbeats 1600000 in
theorem runs_put (base g : Nat) (l ls : List S24) (A : Option Addr) (c : Nat) (w : World) (hT : Tidy 0 l) (h : RunsAt w base g l) (hbase : base ≤ w.heap.size) (hC : Kd.C k24 w A ls.length ls) (hne : Off A ls.length g) :
    Calls Try.prog 35 #[ptrR g, .slice A ls.length c] w fun e w' => e = .returned (.int .i64 (sumN (putV l ls) - sumN l)) ∧ RunsAt w' base g (putV l ls) ∧ Only w w' g := by
  have hln : ls.length ≤ 9223372036854775807 := by have := hC.2.1; unfold maxLen at this; omega
  have HT := Aside0.mk hT
  have H := Aside0.mk h
  have HC := Aside0.mk hC
  have Hne := Aside0.mk hne
  have Hbase := Aside0.mk hbase
  obtain ⟨s0, s1⟩ := hT.sum (by decide)
  clear h hT hC hne hbase
  go_enter Try.func35, Try.ntmps35
  go_wp2_with fail
  refine (runs_count base g l _ HT.out H.out).mono ?_
  rintro e w1 ⟨rfl, hB⟩
  have HO1 : Aside0 (Only w w1 g) := ⟨only_below (only_refl _ _) hB⟩
  have HR1 := Aside0.mk (H.out.keep hB)
  clear hB
  generalize hz : sumN l = z at *
  go_wp2_with fail
  go_loopg [14] ls.length (fun kq v wq => ∃ i : Nat, i + kq = ls.length ∧ v = .int .i64 (i : Int) ∧ Aside0 (Only w wq g) ∧ Aside0 (RunsAt wq base g (putV l (ls.take i))))
  case atStart => exact ⟨0, by omega, rfl, HO1, HR1⟩
  case round =>
    clear HO1 HR1
    obtain ⟨i, hi, rfl, HO, HR⟩ := hrel
    have HTi := Aside0.mk (putV_spec (ls.take i) l HT.out).1
    by_cases hlt : i < ls.length
    · obtain ⟨ad, e1, x0, x1⟩ := at_T24 (C_only HC.out HO.out Hne.out) (i : Int) (by omega) (by omega)
      subst e1
      rw [Int.toNat_natCast, rd_get ls i hlt] at x0 x1
      have hlt' : (i : Int) < (ls.length : Int) := by omega
      have hone : Aside0 (putV l (ls.take (i + 1)) = putOneV (putV l (ls.take i)) ls[i]) := ⟨foldl_snoc putOneV l ls i hlt⟩
      generalize ls[i] = X at *
      obtain ⟨F, M⟩ := X
      simp only at x0 x1
      have Hv := Aside0.mk (valid_eq F M 64 (by decide))
      obtain ⟨kk, rfl⟩ : ∃ z, gk = z + 1 := ⟨gk - 1, by omega⟩
      by_cases hw : wh F M
      · have Hv2 : Aside0 (span_Valid.f F M 64 = some true) := ⟨by rw [Hv.out, decide_eq_true ⟨hw, hw.2.2⟩]⟩
        have hone2 : Aside0 (putV l (ls.take (i + 1)) = addV (putV l (ls.take i)) ⟨F, M⟩) := ⟨by rw [hone.out]; unfold putOneV; rw [if_pos hw]⟩
        have Hw := Aside0.mk hw
        clear hw hone Hv
        go_wp2_with fail
        refine (span_Valid.calls F M 64 true _ Hv2.out).mono ?_
        rintro e w2 ⟨rfl, hB⟩
        have HX2 : Aside0 (Blk w2 wr.heap.size 24 #[.int .i64 F, .int .i64 M]) := ⟨(Blk.new wr _ _).keep hB⟩
        have HO2 : Aside0 (Only w w2 g) := ⟨only_below (only_alloc HO.out _) hB⟩
        have HR2 : Aside0 (RunsAt w2 base g (putV l (ls.take i))) := ⟨(HR.out.keep (below_alloc (Below.refl _ _) _)).keep hB⟩
        have c1 := HX2.out.cell (i := 0) rfl
        have c2 := HX2.out.cell (i := 1) rfl
        clear hB x0 x1
        go_wp2_with fail
        refine (runs_add base g _ F M _ HR2.out HTi.out Hw.out (by have := HO2.out.size; have := Hbase.out; omega)).mono ?_
        rintro e w3 ⟨rfl, hr, ho⟩
        have HO3 : Aside0 (Only w w3 g) := ⟨only_trans HO2.out ho⟩
        have HR3 := Aside0.mk hr
        clear hr ho c1 c2
        go_wp2_with fail
        go_roundg kk
        case measure => omega
        case rel => exact ⟨i + 1, by omega, by go_num, HO3, by rw [hone2.out]; exact HR3⟩
      · have Hv2 : Aside0 (span_Valid.f F M 64 = some false) := ⟨by rw [Hv.out, decide_eq_false (fun h => hw h.1)]⟩
        have hone2 : Aside0 (putV l (ls.take (i + 1)) = putV l (ls.take i)) := ⟨by rw [hone.out]; unfold putOneV; rw [if_neg hw]⟩
        clear hw hone Hv
        go_wp2_with fail
        refine (span_Valid.calls F M 64 false _ Hv2.out).mono ?_
        rintro e w2 ⟨rfl, hB⟩
        have HO2 : Aside0 (Only w w2 g) := ⟨only_below (only_alloc HO.out _) hB⟩
        have HR2 : Aside0 (RunsAt w2 base g (putV l (ls.take i))) := ⟨(HR.out.keep (below_alloc (Below.refl _ _) _)).keep hB⟩
        clear hB x0 x1
        go_wp2_with fail
        go_roundg kk
        case measure => omega
        case rel => exact ⟨i + 1, by omega, by go_num, HO2, by rw [hone2.out]; exact HR2⟩
    · have hlt' : ¬ (i : Int) < (ls.length : Int) := by omega
      obtain rfl : i = ls.length := by omega
      rw [List.take_length] at HR HTi
      go_wp2_with fail
      refine (runs_count base g _ _ HTi.out HR.out).mono ?_
      rintro e w2 ⟨rfl, hB⟩
      obtain ⟨t0, t1⟩ := HTi.out.sum (by decide)
      have HR2 := Aside0.mk (HR.out.keep hB)
      have HO2 : Aside0 (Only w w2 g) := ⟨only_below HO.out hB⟩
      clear hB
      generalize hy : sumN (putV l ls) = y at *
      go_wp2_with fail
      go_ret
      exact ⟨by rw [hz, hy]; rfl, HR2.out, HO2.out⟩
set_option maxRecDepth 100000 in
theorem runs_put_nil (v : Value) (w : World) :
    Calls Try.prog 35 #[.pointer none, v] w fun e w' => e = .returned (.int .i64 0) ∧ Below w.heap.size w w' := by
  go_enter Try.func35, Try.ntmps35
  go_wp2_with fail
  go_ret
  exact ⟨rfl, Below.refl _ _⟩
set_option maxRecDepth 100000 in
theorem runs_cut_nil (v : Value) (w : World) :
    Calls Try.prog 36 #[.pointer none, v] w fun e w' => e = .returned (.int .i64 0) ∧ Below w.heap.size w w' := by
  go_enter Try.func36, Try.ntmps36
  go_wp2_with fail
  go_ret
  exact ⟨rfl, Below.refl _ _⟩
set_option maxRecDepth 100000 in
theorem runs_of (ls : List S24) (A : Option Addr) (c : Nat) (w : World) (hC : Kd.C k24 w A ls.length ls) :
    Calls Try.prog 31 #[.slice A ls.length c] w fun e w' => e = .returned (ptrR w.heap.size) ∧ RunsAt w' w.heap.size w.heap.size (putV [] ls) ∧ Below w.heap.size w w' := by
  have HC := Aside0.mk hC
  have Hne := Aside0.mk (off_lt hC (Nat.le_refl _))
  clear hC
  go_enter Try.func31, Try.ntmps31
  go_wp2_with fail
  refine (runs_put w.heap.size w.heap.size [] ls A c _ trivial ⟨_, Blk.new _ _ _, own_alloc (ORow.nil _ _) _⟩ (by simp) (Kd.C_below HC.out (below_alloc (Below.refl _ _) _)) Hne.out).mono ?_
  rintro e w1 ⟨rfl, hr, ho⟩
  have HR := Aside0.mk hr
  have HB : Aside0 (Below w.heap.size w w1) := ⟨below_only (below_alloc (Below.refl _ _) _) ho (Nat.le_refl _)⟩
  clear hr ho
  go_wp2_with fail
  go_ret
  exact ⟨rfl, HR.out, HB.out⟩
theorem cutV_snoc (l : List S24) (s : S24) (j : Nat) (h : j < l.length) : cutV (l.take (j + 1)) s = cutV (l.take j) s ++ lessV l[j].f0 l[j].f1 s.f0 s.f1 := by
  unfold cutV
  rw [List.take_succ_eq_append_getElem h, List.flatMap_append]; simp
theorem lessV_length (a m b n : Int) : (lessV a m b n).length ≤ 2 := by
  unfold lessV
  split
  · split
    · split <;> split <;> simp
    · simp
  · simp
theorem cutV_length {l : List S24} {s : S24} (hs : wh s.f0 s.f1) (h : Tidy 0 l) : (cutV l s).length ≤ 65 := by
  have := (cutV_spec hs (Int.le_refl _) h).1.length (by decide); omega
set_option maxRecDepth 100000 in
set_option maxHeartbeats 1600000 in
theorem runs_cut (base g : Nat) (l ls : List S24) (A : Option Addr) (c : Nat) (w : World) (hT : Tidy 0 l) (h : RunsAt w base g l) (hbase : base ≤ w.heap.size) (hC : Kd.C k24 w A ls.length ls) (hne : Off A ls.length g) :
    Calls Try.prog 36 #[ptrR g, .slice A ls.length c] w fun e w' => e = .returned (.int .i64 (sumN l - sumN (cutAllV l ls))) ∧ RunsAt w' base g (cutAllV l ls) ∧ Only w w' g := by
  have hln : ls.length ≤ 9223372036854775807 := by have := hC.2.1; unfold maxLen at this; omega
  have HT := Aside0.mk hT
  have H := Aside0.mk h
  have HC := Aside0.mk hC
  have Hne := Aside0.mk hne
  have Hbase := Aside0.mk hbase
  obtain ⟨s0, s1⟩ := hT.sum (by decide)
  clear h hT hC hne hbase
  go_enter Try.func36, Try.ntmps36
  go_wp2_with fail
  refine (runs_count base g l _ HT.out H.out).mono ?_
  rintro e w1 ⟨rfl, hB⟩
  have HO1 : Aside0 (Only w w1 g) := ⟨only_below (only_refl _ _) hB⟩
  have HR1 := Aside0.mk (H.out.keep hB)
  clear hB
  generalize hz : sumN l = z at *
  go_wp2_with fail
  go_loopg [17] ls.length (fun kq v wq => ∃ i : Nat, i + kq = ls.length ∧ v = .int .i64 (i : Int) ∧ Aside0 (Only w wq g) ∧ Aside0 (RunsAt wq base g (cutAllV l (ls.take i))))
  case atStart => exact ⟨0, by omega, rfl, HO1, HR1⟩
  case round =>
    clear HO1 HR1
    obtain ⟨i, hi, rfl, HO, HR⟩ := hrel
    have HTi := Aside0.mk (cutAllV_spec (ls.take i) l HT.out).1
    by_cases hlt : i < ls.length
    · obtain ⟨ad, e1, x0, x1⟩ := at_T24 (C_only HC.out HO.out Hne.out) (i : Int) (by omega) (by omega)
      subst e1
      rw [Int.toNat_natCast, rd_get ls i hlt] at x0 x1
      have hlt' : (i : Int) < (ls.length : Int) := by omega
      have hone : Aside0 (cutAllV l (ls.take (i + 1)) = cutOneV (cutAllV l (ls.take i)) ls[i]) := ⟨foldl_snoc cutOneV l ls i hlt⟩
      generalize ls[i] = X at *
      generalize cutAllV l (ls.take i) = cur at *
      obtain ⟨F, M⟩ := X
      simp only at x0 x1
      have Hv := Aside0.mk (valid_eq F M 64 (by decide))
      obtain ⟨kk, rfl⟩ : ∃ z, gk = z + 1 := ⟨gk - 1, by omega⟩
      by_cases hw : wh F M
      · have Hv2 : Aside0 (span_Valid.f F M 64 = some true) := ⟨by rw [Hv.out, decide_eq_true ⟨hw, hw.2.2⟩]⟩
        have hone2 : Aside0 (cutAllV l (ls.take (i + 1)) = cutV cur ⟨F, M⟩) := ⟨by rw [hone.out]; unfold cutOneV; rw [if_pos hw]⟩
        have Hw := Aside0.mk hw
        have hcl := HTi.out.length (by decide)
        clear hw hone Hv
        go_wp2_with fail
        refine (span_Valid.calls F M 64 true _ Hv2.out).mono ?_
        rintro e w2 ⟨rfl, hB⟩
        have HX2 : Aside0 (Blk w2 wr.heap.size 24 #[.int .i64 F, .int .i64 M]) := ⟨(Blk.new wr _ _).keep hB⟩
        have HO2 : Aside0 (Only w w2 g) := ⟨only_below (only_alloc HO.out _) hB⟩
        obtain ⟨v0, hb0, ho0⟩ := (HR.out.keep (below_alloc (Below.refl _ _) _)).keep hB
        obtain ⟨A0, k0, rfl, _, hC0, _⟩ := ho0.reads
        have HG2 := Aside0.mk hb0
        have HC2 := Aside0.mk hC0
        have c1 := HG2.out.cell (i := 0) rfl
        clear hB x0 x1 hb0 ho0 hC0
        go_wp2_with fail
        go_loopg [8, 29] cur.length (fun kq u v wq => ∃ j : Nat, j + kq = cur.length ∧ v = .int .i64 (j : Int) ∧ Aside0 (Below w2.heap.size w2 wq) ∧ Aside0 (ORow wq w2.heap.size u (cutV (cur.take j) ⟨F, M⟩)))
        case atStart => exact ⟨0, by omega, rfl, ⟨Below.refl _ _⟩, ⟨ORow.nil _ _⟩⟩
        case round =>
          clear c1
          obtain ⟨j, hj, rfl, HB, HU⟩ := hrel
          by_cases hjl : j < cur.length
          · obtain ⟨ad', e1, y0, y1⟩ := at_T24 (Kd.C_below HC2.out HB.out) (j : Int) (by omega) (by omega)
            subst e1
            rw [Int.toNat_natCast, rd_get cur j hjl] at y0 y1
            have hlt2 : (j : Int) < (cur.length : Int) := by omega
            have hstep := Aside0.mk (cutV_snoc cur ⟨F, M⟩ j hjl)
            have hcl2 := Aside0.mk (cutV_length (s := ⟨F, M⟩) Hw.out (HTi.out.take j))
            have Hless := Aside0.mk (less_eq cur[j].f0 cur[j].f1 F M 0)
            have hll := Aside0.mk (lessV_length cur[j].f0 cur[j].f1 F M)
            generalize cur[j] = Y at *
            obtain ⟨G, N⟩ := Y
            simp only at y0 y1 hstep Hless hll
            generalize cutV (cur.take j) ⟨F, M⟩ = o at *
            generalize lessV G N F M = ll at *
            obtain ⟨jj, rfl⟩ : ∃ z, gk = z + 1 := ⟨gk - 1, by omega⟩
            have HXw := Aside0.mk (HX2.out.below HB.out HX2.out.lt)
            have d0 := HXw.out.cell (i := 0) rfl
            have d1 := HXw.out.cell (i := 1) rfl
            have d2 := HXw.out.lt
            obtain ⟨U, ku, rfl, _, _, _⟩ := HU.out.reads
            go_wp2_with fail
            refine (span_Less.calls 1 G N F M ll _ Hless.out).mono ?_
            rintro e w3 ⟨v3, rfl, hr, hB⟩
            have ho3 := ORow.of_R hr
            have HB3 : Aside0 (Below w2.heap.size w2 w3) := ⟨below_step (below_alloc HB.out _) hB⟩
            have HU3 := Aside0.mk (ORow.below (own_alloc HU.out _) hB)
            obtain ⟨A3, k3, hv3, _, hC3, _⟩ := ho3.reads
            subst hv3
            have HC3 := Aside0.mk hC3
            clear hB y0 y1 d0 d1 d2 hC3 ho3 hr HB HU HXw
            go_wp2_with ((with_reducible refine gate_builtin (b := .append) (xs := #[.tmp 33, .tmp 36]) rfl ?_); at_builtin; refine Kd.R_append_rows k24 (Rr := k24.K w3) (w0 := w2) w2.heap.size rfl (.tmp 33) (.tmp 36) 31 24 (.agg #[(.int .i64 0), (.int .i64 0)]) 16 rfl Try.underlying31 info24' rfl (by decide) (by decide) (.slice U o.length ku) o ll A3 ll.length k3 (fun _ => True) (fun _ => False) rfl rfl HU3.out.to_R HC3.out ?aK (fun _ h => h.elim) (fun _ _ => trivial) HB3.out HB3.out.size ?aL ?_; (case aK => (intro x cs hk; rw [k24_open hk]; exact k24_mkM _ _ _ _)); (case aL => (have := hcl2.out; have := hll.out; omega)); intro v4 w4 ho hb hg hat; have HU4 := Aside0.mk (ORow.of_R ho); have HB4 := Aside0.mk hb; clear ho hb hg hat)
            go_roundg jj
            case measure => omega
            case rel => exact ⟨j + 1, by omega, by go_num, HB4, by rw [hstep.out]; exact HU4⟩
          · have hlt2 : ¬ (j : Int) < (cur.length : Int) := by omega
            obtain rfl : j = cur.length := by omega
            rw [List.take_length] at HU
            have HGw := Aside0.mk (HG2.out.below HB.out HG2.out.lt)
            have c1 := HGw.out.cell (i := 0) rfl
            have f1 := HGw.out.frozen 0
            have Hgl : Aside0 (g < w2.heap.size) := ⟨HG2.out.lt⟩
            obtain ⟨U, ku, rfl, _, _, _⟩ := HU.out.reads
            have HO4 := Aside0.mk (only_below HO2.out HB.out)
            go_wp2_with fail
            go_roundg kk
            case measure => omega
            case rel =>
              refine ⟨i + 1, by omega, by go_num, ⟨only_set HO4.out 0 _⟩, ⟨_, HGw.out.set_ 0 _, ?_⟩⟩
              rw [hone2.out]
              exact (HU.out.far (p := ⟨g, 0, none⟩) (HU.out.ne_old Hgl.out) _).lower (by have := HO2.out.size; have := Hbase.out; omega)
      · have Hv2 : Aside0 (span_Valid.f F M 64 = some false) := ⟨by rw [Hv.out, decide_eq_false (fun h => hw h.1)]⟩
        have hone2 : Aside0 (cutAllV l (ls.take (i + 1)) = cur) := ⟨by rw [hone.out]; unfold cutOneV; rw [if_neg hw]⟩
        clear hw hone Hv
        go_wp2_with fail
        refine (span_Valid.calls F M 64 false _ Hv2.out).mono ?_
        rintro e w2 ⟨rfl, hB⟩
        have HO2 : Aside0 (Only w w2 g) := ⟨only_below (only_alloc HO.out _) hB⟩
        have HR2 : Aside0 (RunsAt w2 base g cur) := ⟨(HR.out.keep (below_alloc (Below.refl _ _) _)).keep hB⟩
        clear hB x0 x1
        go_wp2_with fail
        go_roundg kk
        case measure => omega
        case rel => exact ⟨i + 1, by omega, by go_num, HO2, by rw [hone2.out]; exact HR2⟩
    · have hlt' : ¬ (i : Int) < (ls.length : Int) := by omega
      obtain rfl : i = ls.length := by omega
      rw [List.take_length] at HR HTi
      go_wp2_with fail
      refine (runs_count base g _ _ HTi.out HR.out).mono ?_
      rintro e w2 ⟨rfl, hB⟩
      obtain ⟨t0, t1⟩ := HTi.out.sum (by decide)
      have HR2 := Aside0.mk (HR.out.keep hB)
      have HO2 : Aside0 (Only w w2 g) := ⟨only_below HO.out hB⟩
      clear hB
      generalize hy : sumN (cutAllV l ls) = y at *
      go_wp2_with fail
      go_ret
      exact ⟨by rw [hz, hy]; rfl, HR2.out, HO2.out⟩
/-- What one span and one have in common is put in. -/
def meetStep (a : S24) (o : List S24) (b : S24) : List S24 :=
  if laps a.f0 a.f1 b.f0 b.f1 then addV o ⟨max a.f0 b.f0, min (a.f0 + a.f1) (b.f0 + b.f1) - max a.f0 b.f0⟩ else o
def meetAll (l' o : List S24) (a : S24) : List S24 := l'.foldl (meetStep a) o
def bothV (l l' : List S24) : List S24 := l.foldl (meetAll l') []
theorem laps_wh {a m b n : Int} (h : laps a m b n) : wh (max a b) (min (a + m) (b + n) - max a b) := by unfold laps wh at *; omega
theorem meetAll_spec (a : S24) (ha : wh a.f0 a.f1) : ∀ (l' o : List S24), Tidy 0 o → (∀ x ∈ l', wh x.f0 x.f1) → Tidy 0 (meetAll l' o a) ∧ ∀ k, mem (meetAll l' o a) k ↔ mem o k ∨ (inSp a k ∧ mem l' k)
  | [], o, h, _ => ⟨h, fun k => by show mem o k ↔ _; have := mem_nil k; simp [this]⟩
  | b :: l', o, h, hl => by
    show Tidy 0 (meetAll l' (meetStep a o b) a) ∧ ∀ k, mem (meetAll l' (meetStep a o b) a) k ↔ _
    have hb := hl b List.mem_cons_self
    unfold meetStep
    by_cases hs : laps a.f0 a.f1 b.f0 b.f1
    · rw [if_pos hs]
      obtain ⟨a1, a2⟩ := addV_spec (s := ⟨max a.f0 b.f0, min (a.f0 + a.f1) (b.f0 + b.f1) - max a.f0 b.f0⟩) h (laps_wh hs)
      obtain ⟨b1, b2⟩ := meetAll_spec a ha l' _ a1 (fun x hx => hl x (List.mem_cons_of_mem _ hx))
      refine ⟨b1, fun k => ?_⟩
      rw [b2 k, a2 k, mem_cons]
      unfold inSp; simp only
      constructor
      · rintro ((h | h) | h)
        · exact .inl h
        · exact .inr ⟨by omega, .inl (by omega)⟩
        · exact .inr ⟨h.1, .inr h.2⟩
      · rintro (h | ⟨h, h' | h'⟩)
        · exact .inl (.inl h)
        · exact .inl (.inr (by omega))
        · exact .inr ⟨h, h'⟩
    · rw [if_neg hs]
      obtain ⟨b1, b2⟩ := meetAll_spec a ha l' _ h (fun x hx => hl x (List.mem_cons_of_mem _ hx))
      refine ⟨b1, fun k => ?_⟩
      rw [b2 k, mem_cons]
      unfold laps at hs
      unfold inSp
      constructor
      · rintro (h | h)
        · exact .inl h
        · exact .inr ⟨h.1, .inr h.2⟩
      · rintro (h | ⟨h, h' | h'⟩)
        · exact .inl h
        · exact absurd ⟨ha, hb, by omega⟩ hs
        · exact .inr ⟨h, h'⟩
theorem bothGo_spec (l' : List S24) (hl' : ∀ x ∈ l', wh x.f0 x.f1) : ∀ (l o : List S24), Tidy 0 o → (∀ x ∈ l, wh x.f0 x.f1) → Tidy 0 (l.foldl (meetAll l') o) ∧ ∀ k, mem (l.foldl (meetAll l') o) k ↔ mem o k ∨ (mem l k ∧ mem l' k)
  | [], o, h, _ => ⟨h, fun k => by show mem o k ↔ _; have := mem_nil k; simp [this]⟩
  | a :: l, o, h, hl => by
    obtain ⟨a1, a2⟩ := meetAll_spec a (hl a List.mem_cons_self) l' o h hl'
    obtain ⟨b1, b2⟩ := bothGo_spec l' hl' l _ a1 (fun x hx => hl x (List.mem_cons_of_mem _ hx))
    refine ⟨b1, fun k => ?_⟩
    show mem (l.foldl (meetAll l') (meetAll l' o a)) k ↔ _
    rw [b2 k, a2 k, mem_cons]
    constructor
    · rintro ((h | h) | h)
      · exact .inl h
      · exact .inr ⟨.inl h.1, h.2⟩
      · exact .inr ⟨.inr h.1, h.2⟩
    · rintro (h | ⟨h | h, h'⟩)
      · exact .inl (.inl h)
      · exact .inl (.inr ⟨h, h'⟩)
      · exact .inr ⟨h, h'⟩
theorem bothV_spec {l l' : List S24} (h : Tidy 0 l) (h' : Tidy 0 l') : Tidy 0 (bothV l l') ∧ ∀ k, mem (bothV l l') k ↔ mem l k ∧ mem l' k := by
  obtain ⟨a, b⟩ := bothGo_spec l' (h'.whole (Int.le_refl _)) l [] trivial (h.whole (Int.le_refl _))
  exact ⟨a, fun k => by have := b k; have hn := mem_nil k; simp only [hn, false_or] at this; exact this⟩
set_option maxRecDepth 100000 in
set_option maxHeartbeats 1600000 in
theorem runs_both_of (P0 P1 : Value) (hp1 : ∃ a, P1 = .pointer a) (l l' : List S24) (w : World) (hT : Tidy 0 l) (hT' : Tidy 0 l')
    (h0 : ∀ W, Below w.heap.size w W → Calls Try.prog 38 #[P0] W fun e w' => ∃ v, e = .returned v ∧ ORow w' W.heap.size v l ∧ Below W.heap.size W w')
    (h1 : ∀ W, Below w.heap.size w W → Calls Try.prog 38 #[P1] W fun e w' => ∃ v, e = .returned v ∧ ORow w' W.heap.size v l' ∧ Below W.heap.size W w') :
    Calls Try.prog 37 #[P0, P1] w fun e w' => e = .returned (ptrR w.heap.size) ∧ RunsAt w' w.heap.size w.heap.size (bothV l l') ∧ Below w.heap.size w w' := by
  have hlen := hT.length (by decide)
  have hlen' := hT'.length (by decide)
  have HT := Aside0.mk hT
  have HT' := Aside0.mk hT'
  have H0 := Aside0.mk h0
  have H1 := Aside0.mk h1
  obtain ⟨p1, rfl⟩ := hp1
  clear h0 h1 hT hT'
  go_enter Try.func37, Try.ntmps37
  go_wp2_with fail
  refine (H0.out _ (below_alloc (Below.refl _ _) _)).mono ?_
  rintro e w1 ⟨v, rfl, ho, hB⟩
  obtain ⟨A, c, rfl, hlc, hC, _⟩ := ho.reads
  have HB1 : Aside0 (Below w.heap.size w w1) := ⟨below_step (below_alloc (Below.refl _ _) _) hB⟩
  have HR1 : Aside0 (RunsAt w1 w.heap.size w.heap.size []) := ⟨RunsAt.keep ⟨_, Blk.new _ _ _, own_alloc (ORow.nil _ _) _⟩ hB⟩
  have HC := Aside0.mk hC
  have Hne := Aside0.mk (off_row ho (g := w.heap.size) (by simp))
  clear ho hC hB H0 hlc
  go_wp2_with fail
  go_loopg [17] l.length (fun kq v wq => ∃ i : Nat, i + kq = l.length ∧ v = .int .i64 (i : Int) ∧ Aside0 (Below w.heap.size w wq) ∧ Aside0 (Only w1 wq w.heap.size) ∧ Aside0 (RunsAt wq w.heap.size w.heap.size ((l.take i).foldl (meetAll l') [])))
  case atStart => exact ⟨0, by omega, rfl, HB1, ⟨only_refl _ _⟩, HR1⟩
  case round =>
    clear HR1
    obtain ⟨i, hi, rfl, HB, HO, HR⟩ := hrel
    by_cases hlt : i < l.length
    · obtain ⟨ad, e1, x0, x1⟩ := at_T24 (C_only HC.out HO.out Hne.out) (i : Int) (by omega) (by omega)
      subst e1
      rw [Int.toNat_natCast, rd_get l i hlt] at x0 x1
      have hlt' : (i : Int) < (l.length : Int) := by omega
      have hone : Aside0 ((l.take (i + 1)).foldl (meetAll l') [] = meetAll l' ((l.take i).foldl (meetAll l') []) l[i]) := ⟨foldl_snoc (meetAll l') [] l i hlt⟩
      have HTi := Aside0.mk (bothGo_spec l' (HT'.out.whole (Int.le_refl _)) (l.take i) [] trivial ((HT.out.take i).whole (Int.le_refl _))).1
      have hwX : Aside0 (wh l[i].f0 l[i].f1) := ⟨HT.out.whole (Int.le_refl _) _ (List.getElem_mem hlt)⟩
      generalize l[i] = X at *
      generalize (l.take i).foldl (meetAll l') [] = cur at *
      obtain ⟨F, M⟩ := X
      simp only at x0 x1 hwX
      obtain ⟨kk, rfl⟩ : ∃ z, gk = z + 1 := ⟨gk - 1, by omega⟩
      go_wp2_with fail
      refine (H1.out _ (below_alloc HB.out _)).mono ?_
      rintro e w2 ⟨v, rfl, ho, hB⟩
      obtain ⟨A2, c2, rfl, hlc, hC, _⟩ := ho.reads
      have HB2 : Aside0 (Below w.heap.size w w2) := ⟨below_step (below_alloc HB.out _) hB⟩
      have HO2 : Aside0 (Only w1 w2 w.heap.size) := ⟨only_below (only_alloc HO.out _) hB⟩
      have HR2 : Aside0 (RunsAt w2 w.heap.size w.heap.size cur) := ⟨(HR.out.keep (below_alloc (Below.refl _ _) _)).keep hB⟩
      have HX2 : Aside0 (Blk w2 wr.heap.size 24 #[.int .i64 F, .int .i64 M]) := ⟨(Blk.new wr _ _).keep hB⟩
      have HC2 := Aside0.mk hC
      have hgx : Aside0 (w.heap.size < wr.heap.size) := ⟨HR.out.lt⟩
      have Hne2 := Aside0.mk (off_row ho (g := w.heap.size) (by have := hgx.out; simp; omega))
      have hgx2 : Aside0 (wr.heap.size ≠ w.heap.size) := ⟨by have := hgx.out; omega⟩
      obtain ⟨gx, hgxe⟩ : ∃ n, n = wr.heap.size := ⟨_, rfl⟩
      rw [← hgxe] at HX2 hgx2
      rw [← hgxe]
      clear ho hC hB HB HO HR x0 x1 hlc hgx hgxe
      go_wp2_with fail
      go_loopg [24] l'.length (fun kq v wq => ∃ j : Nat, j + kq = l'.length ∧ v = .int .i64 (j : Int) ∧ Aside0 (Below w.heap.size w wq) ∧ Aside0 (Only w2 wq w.heap.size) ∧ Aside0 (RunsAt wq w.heap.size w.heap.size (meetAll (l'.take j) cur ⟨F, M⟩)))
      case atStart => exact ⟨0, by omega, rfl, HB2, ⟨only_refl _ _⟩, HR2⟩
      case round =>
        clear HR2
        obtain ⟨j, hj, rfl, HB, HO, HR⟩ := hrel
        by_cases hjl : j < l'.length
        · obtain ⟨ad', e1, y0, y1⟩ := at_T24 (C_only HC2.out HO.out Hne2.out) (j : Int) (by omega) (by omega)
          subst e1
          rw [Int.toNat_natCast, rd_get l' j hjl] at y0 y1
          have hlt2 : (j : Int) < (l'.length : Int) := by omega
          have hstep : Aside0 (meetAll (l'.take (j + 1)) cur ⟨F, M⟩ = meetStep ⟨F, M⟩ (meetAll (l'.take j) cur ⟨F, M⟩) l'[j]) := ⟨foldl_snoc (meetStep ⟨F, M⟩) cur l' j hjl⟩
          have HTj := Aside0.mk (meetAll_spec ⟨F, M⟩ hwX.out (l'.take j) cur HTi.out ((HT'.out.take j).whole (Int.le_refl _))).1
          generalize l'[j] = Y at *
          obtain ⟨G, N⟩ := Y
          simp only at y0 y1
          generalize meetAll (l'.take j) cur ⟨F, M⟩ = o at *
          obtain ⟨jj, rfl⟩ : ∃ z, gk = z + 1 := ⟨gk - 1, by omega⟩
          have HXw := Aside0.mk (HX2.out.only HO.out hgx2.out)
          have d0 := HXw.out.cell (i := 0) rfl
          have d1 := HXw.out.cell (i := 1) rfl
          have d2 := HXw.out.lt
          have Hm := Aside0.mk (meet_eq F M G N 0)
          by_cases hq : laps F M G N
          · have Hm2 : Aside0 (span_Meet.f 1 F M G N = some (max F G, min (F + M) (G + N) - max F G, true)) := ⟨by rw [Hm.out]; unfold meetV; rw [if_pos hq]⟩
            have hs2 : Aside0 (meetAll (l'.take (j + 1)) cur ⟨F, M⟩ = addV o ⟨max F G, min (F + M) (G + N) - max F G⟩) := ⟨by rw [hstep.out]; unfold meetStep; rw [if_pos hq]⟩
            have hwm := Aside0.mk (laps_wh hq)
            clear hq Hm hstep
            generalize max F G = P at *
            generalize min (F + M) (G + N) - P = Q at *
            go_wp2_with fail
            refine (span_Meet.calls 1 F M G N P Q true _ Hm2.out).mono ?_
            rintro e w3 ⟨rfl, hB⟩
            have HB3 : Aside0 (Below w.heap.size w w3) := ⟨below_step (below_alloc HB.out _) hB⟩
            have HO3 : Aside0 (Only w2 w3 w.heap.size) := ⟨only_below (only_alloc HO.out _) hB⟩
            have HR3 : Aside0 (RunsAt w3 w.heap.size w.heap.size o) := ⟨(HR.out.keep (below_alloc (Below.refl _ _) _)).keep hB⟩
            clear hB y0 y1 d0 d1 d2
            go_wp2_with fail
            refine (runs_add w.heap.size w.heap.size o P Q _ (HR3.out.keep (below_alloc (Below.refl _ _) _)) HTj.out hwm.out (below_size (below_alloc HB3.out _))).mono ?_
            rintro e w4 ⟨rfl, hr, ho⟩
            have HB4 : Aside0 (Below w.heap.size w w4) := ⟨below_only (below_alloc HB3.out _) ho (Nat.le_refl _)⟩
            have HO4 : Aside0 (Only w2 w4 w.heap.size) := ⟨only_trans (only_alloc HO3.out _) ho⟩
            have HR4 := Aside0.mk hr
            clear hr ho
            go_wp2_with fail
            go_roundg jj
            case measure => omega
            case rel => exact ⟨j + 1, by omega, by go_num, HB4, HO4, by rw [hs2.out]; exact HR4⟩
          · have Hm2 : Aside0 (span_Meet.f 1 F M G N = some (0, 0, false)) := ⟨by rw [Hm.out]; unfold meetV; rw [if_neg hq]⟩
            have hs2 : Aside0 (meetAll (l'.take (j + 1)) cur ⟨F, M⟩ = o) := ⟨by rw [hstep.out]; unfold meetStep; rw [if_neg hq]⟩
            clear hq Hm hstep
            go_wp2_with fail
            refine (span_Meet.calls 1 F M G N 0 0 false _ Hm2.out).mono ?_
            rintro e w3 ⟨rfl, hB⟩
            have HB3 : Aside0 (Below w.heap.size w w3) := ⟨below_step (below_alloc HB.out _) hB⟩
            have HO3 : Aside0 (Only w2 w3 w.heap.size) := ⟨only_below (only_alloc HO.out _) hB⟩
            have HR3 : Aside0 (RunsAt w3 w.heap.size w.heap.size o) := ⟨(HR.out.keep (below_alloc (Below.refl _ _) _)).keep hB⟩
            clear hB y0 y1 d0 d1 d2
            go_wp2_with fail
            go_roundg jj
            case measure => omega
            case rel => exact ⟨j + 1, by omega, by go_num, ⟨below_alloc HB3.out _⟩, ⟨only_alloc HO3.out _⟩, by rw [hs2.out]; exact ⟨HR3.out.keep (below_alloc (Below.refl _ _) _)⟩⟩
        · have hlt2 : ¬ (j : Int) < (l'.length : Int) := by omega
          obtain rfl : j = l'.length := by omega
          rw [List.take_length] at HR
          have HO5 := Aside0.mk (only_trans HO2.out HO.out)
          go_wp2_with fail
          go_roundg kk
          case measure => omega
          case rel => exact ⟨i + 1, by omega, by go_num, HB, HO5, by rw [hone.out]; exact HR⟩
    · have hlt' : ¬ (i : Int) < (l.length : Int) := by omega
      obtain rfl : i = l.length := by omega
      rw [List.take_length] at HR
      go_wp2_with fail
      go_ret
      exact ⟨rfl, HR.out, HB.out⟩
theorem runs_both (base g base' g' : Nat) (l l' : List S24) (w : World) (hT : Tidy 0 l) (hT' : Tidy 0 l') (h : RunsAt w base g l) (h' : RunsAt w base' g' l') :
    Calls Try.prog 37 #[ptrR g, ptrR g'] w fun e w' => e = .returned (ptrR w.heap.size) ∧ RunsAt w' w.heap.size w.heap.size (bothV l l') ∧ Below w.heap.size w w' :=
  runs_both_of _ _ ⟨_, rfl⟩ l l' w hT hT' (fun W hB => runs_all base g l (by have := hT.length (by decide); omega) W (h.keep hB)) (fun W hB => runs_all base' g' l' (by have := hT'.length (by decide); omega) W (h'.keep hB))
theorem runs_both_nil (base g : Nat) (l : List S24) (w : World) (hT : Tidy 0 l) (h : RunsAt w base g l) :
    Calls Try.prog 37 #[ptrR g, .pointer none] w fun e w' => e = .returned (ptrR w.heap.size) ∧ RunsAt w' w.heap.size w.heap.size (bothV l []) ∧ Below w.heap.size w w' :=
  runs_both_of _ _ ⟨_, rfl⟩ l [] w hT trivial (fun W hB => runs_all base g l (by have := hT.length (by decide); omega) W (h.keep hB)) (fun W hB => runs_all_nil W)
end Go.Proofs.Ytjbimnicnehnaaa.Hand
