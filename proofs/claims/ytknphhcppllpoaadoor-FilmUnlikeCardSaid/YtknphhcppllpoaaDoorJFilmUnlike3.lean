/- Parts of the proof for FilmUnlike: RunsB, RunsD, Unl. -/
import Derived.Lib.SliceRun
import Derived.Test.YtknphhcppllpoaaDoorJFilmUnlike2
section
namespace Go.Proofs.YtknphhcppllpoaaDoor.Hand
open Go.RowKit Go.Proofs.YtknphhcppllpoaaDoorW.PrintWords Go.Proofs.YtknphhcppllpoaaDoorW.PrintLast Go.Proofs.YtknphhcppllpoaaDoorW.PrintMore Go.Proofs.YtknphhcppllpoaaDoor.A
set_option linter.unusedVariables false
set_option linter.unusedSimpArgs false
attribute [local go_sem] max2_int min2_int max_two min_two max_three min_three max_four min_four
theorem clone_nil (w : World) :
    Calls Tryd.prog 61 #[.slice none 0 0] w fun e w' => ∃ v, e = .returned v ∧ ORow w' w.heap.size v [] ∧ Below w.heap.size w w' := by
  have q0 := fun W => Lib.run_eql_slice_nil (P := Tryd.prog) W 49 55 none 0 0 0 0 Tryd.underlying49
  go_enter Tryd.func61, Tryd.ntmps61
  go_wp2_with fail
  go_ret
  exact ⟨_, rfl, ORow.nil _ _, Below.refl _ _⟩
set_option maxRecDepth 100000 in
theorem clone_some (a : Addr) (c : Nat) (l : List S55) (hn : l.length ≤ 1000000) (w : World) (hC : Kd.C k55 w (some a) l.length l) :
    Calls Tryd.prog 61 #[.slice (some a) l.length c] w fun e w' => ∃ v, e = .returned v ∧ ORow w' w.heap.size v l ∧ Below w.heap.size w w' := by
  have q0 := fun W => Lib.run_eql_slice_nil (P := Tryd.prog) W 49 55 (some a) l.length c 0 0 Tryd.underlying49
  have HC := Aside0.mk hC
  have Hn := Aside0.mk hn
  clear hC hn
  go_enter Tryd.func61, Tryd.ntmps61
  go_wp2_with ((with_reducible refine gate_builtin (b := .append) (xs := #[.tmp 5, .tmp 6]) rfl ?_); at_builtin; refine Kd.R_append_rows k55 (Rr := k55.K (w.alloc (.cells #[] 55))) (w0 := w) w.heap.size rfl (.tmp 5) (.tmp 6) 49 55 (.agg #[(.int .i64 0), (.int .i64 0)]) 16 rfl Tryd.underlying49 info55' rfl (by decide) (by decide) (.slice (some ⟨w.heap.size, 0, none⟩) 0 0) [] l (some a) l.length c (fun _ => True) (fun _ => False) rfl rfl ?aO ?aR ?aK (fun _ h => h.elim) (fun _ _ => trivial) ?aB ?aS ?aL ?_; (case aO => exact ⟨fun _ _ => trivial, [], World.ownsRow_lit w #[] 0 (Nat.le_refl _) (by decide) rfl, Reps.none _ _⟩); (case aR => exact Kd.C_below HC.out (below_alloc (Below.refl _ _) _)); (case aK => (intro x cs hk; rw [k55_open hk]; exact k55_mkM _ _ _ _)); (case aB => exact below_alloc (Below.refl _ _) _); (case aS => simp); (case aL => (have := Hn.out; simp only [List.length_nil]; omega)); intro v1 w1 ho hb hg hat; have HO := Aside0.mk (ORow.of_R ho); have HB := Aside0.mk hb; clear ho hb hg hat)
  obtain ⟨A1, c1, hv, _⟩ := HO.out.reads
  subst hv
  go_ret
  exact ⟨_, rfl, HO.out, HB.out⟩
set_option maxRecDepth 100000 in
theorem runs_all (base g : Nat) (l : List S55) (hn : l.length ≤ 1000000) (w : World) (h : RunsAt w base g l) :
    Calls Tryd.prog 27 #[ptrR g] w fun e w' => ∃ v, e = .returned v ∧ ORow w' w.heap.size v l ∧ Below w.heap.size w w' := by
  obtain ⟨v0, hb, ho⟩ := h
  have hcl : ∀ v0, ORow w base v0 l → Calls Tryd.prog 61 #[v0] w fun e w' => ∃ v, e = .returned v ∧ ORow w' w.heap.size v l ∧ Below w.heap.size w w' := by
    intro v0 ho
    obtain ⟨A, c, rfl, hlc, hC, _⟩ := ho.reads
    cases A with
    | none =>
      rcases ho.2 with ⟨he, h0⟩ | ⟨g', cap, cur, he, _⟩
      · obtain rfl : l = [] := List.eq_nil_of_length_eq_zero h0
        rw [he]; exact clone_nil w
      · cases he
    | some a => exact clone_some a c l hn w hC
  have Hcl := Aside0.mk (hcl v0 ho)
  obtain ⟨A, c, rfl, hlc, hC, _⟩ := ho.reads
  have c0 := hb.cell (i := 0) rfl
  clear hb ho hcl hC hlc
  go_enter Tryd.func27, Tryd.ntmps27
  go_wp2_with fail
  refine Hcl.out.mono ?_
  rintro e w1 ⟨v, rfl, ho, hB⟩
  have HO := Aside0.mk ho
  have HB := Aside0.mk hB
  clear ho hB
  obtain ⟨A1, c1, hv, _⟩ := HO.out.reads
  subst hv
  go_wp2_with fail
  go_ret
  exact ⟨_, rfl, HO.out, HB.out⟩
theorem sumN_step (l : List S55) (i : Nat) (h : i < l.length) : sumN (l.take (i + 1)) = sumN (l.take i) + l[i].f1 := by
  rw [List.take_succ_eq_append_getElem h, sumN_append, sumN_cons]; simp [sumN]
set_option maxRecDepth 100000 in
theorem runs_count_of (P0 : Value) (l : List S55) (w : World) (hT : Tidy 0 l) (ha : Calls Tryd.prog 27 #[P0] w fun e w' => ∃ v, e = .returned v ∧ ORow w' w.heap.size v l ∧ Below w.heap.size w w') :
    Calls Tryd.prog 58 #[P0] w fun e w' => e = .returned (.int .i64 (sumN l)) ∧ Below w.heap.size w w' := by
  have hlen := hT.length (by decide)
  have HT := Aside0.mk hT
  have Hc := Aside0.mk ha
  clear ha hT
  go_enter Tryd.func58, Tryd.ntmps58
  go_wp2_with fail
  refine Hc.out.mono ?_
  rintro e w1 ⟨v, rfl, ho, hB⟩
  obtain ⟨A, c, rfl, hlc, hC, _⟩ := ho.reads
  have HB1 := Aside0.mk hB
  have HC := Aside0.mk hC
  clear ho hC hB Hc hlc
  go_wp2_with fail
  go_loopg [3, 9] l.length (fun kq u v wq => ∃ i : Nat, i + kq = l.length ∧ v = .int .i64 (i : Int) ∧ u = .int .i64 (sumN (l.take i)) ∧ Aside0 (Below w1.heap.size w1 wq))
  case atStart => exact ⟨0, by omega, rfl, rfl, ⟨Below.refl _ _⟩⟩
  case round =>
    obtain ⟨i, hi, rfl, rfl, HB⟩ := hrel
    by_cases hlt : i < l.length
    · obtain ⟨ad, e1, x0, x1⟩ := at_T55 (Kd.C_below HC.out HB.out) (i : Int) (by omega) (by omega)
      subst e1
      rw [Int.toNat_natCast, rd_get l i hlt] at x0 x1
      have hlt' : (i : Int) < (l.length : Int) := by omega
      have hs := (HT.out.take i).sum (by decide)
      obtain ⟨hs0, hs1⟩ := hs
      have hw := HT.out.whole (Int.le_refl _) _ (List.getElem_mem hlt)
      obtain ⟨hw0, hw1, hw2⟩ := hw
      have hs2 := Aside0.mk (sumN_step l i hlt)
      generalize sumN (l.take i) = z at *
      generalize l[i] = X at *
      obtain ⟨F, M⟩ := X
      simp only at x0 x1 hw0 hw1 hw2 hs2
      obtain ⟨kk, rfl⟩ : ∃ z, gk = z + 1 := ⟨gk - 1, by omega⟩
      go_wp2_with fail
      go_roundg kk
      case measure => omega
      case rel => exact ⟨i + 1, by omega, by go_num, by rw [hs2.out], ⟨below_alloc HB.out _⟩⟩
    · have hlt' : ¬ (i : Int) < (l.length : Int) := by omega
      obtain rfl : i = l.length := by omega
      rw [List.take_length]
      go_wp2_with fail
      go_ret
      exact ⟨rfl, below_step HB1.out HB.out⟩
theorem runs_count (base g : Nat) (l : List S55) (w : World) (hT : Tidy 0 l) (h : RunsAt w base g l) :
    Calls Tryd.prog 58 #[ptrR g] w fun e w' => e = .returned (.int .i64 (sumN l)) ∧ Below w.heap.size w w' :=
  runs_count_of _ l w hT (runs_all base g l (by have := hT.length (by decide); omega) w h)
theorem drawn_below {w w1 : World} (h : Drawn0 w w1) : Below w.heap.size w w1 := by
  obtain ⟨n, rfl⟩ := h.out
  exact pw_below_drewN (Below.refl _ _) n
instance (x : S55) (k : Int) : Decidable (inSp x k) := by unfold inSp; infer_instance
end Go.Proofs.YtknphhcppllpoaaDoor.Hand
end
section
namespace Go.Proofs.YtknphhcppllpoaaDoor.Hand
open Go.RowKit Go.Proofs.YtknphhcppllpoaaDoorW.PrintWords Go.Proofs.YtknphhcppllpoaaDoorW.PrintLast Go.Proofs.YtknphhcppllpoaaDoorW.PrintMore Go.Proofs.YtknphhcppllpoaaDoor.A
set_option linter.unusedVariables false
set_option linter.unusedSimpArgs false
attribute [local go_sem] max2_int min2_int max_two min_two max_three min_three max_four min_four
theorem add_block (a : Addr) (j : Nat) : (a.add j).block = a.block := by unfold Addr.add; split <;> rfl
/-- A row (if there is one) is not in a block. -/
def Off (A : Option Addr) (n g : Nat) : Prop := 0 < n → ∀ a, A = some a → a.block ≠ g
theorem off_lt {w : World} {n g : Nat} {A : Option Addr} {l : List S55} (h : Kd.C k55 w A n l) (hg : w.heap.size ≤ g) : Off A n g := by
  intro hn a ha e
  obtain ⟨ad, he, x0, _⟩ := at_T55 h 0 (Int.le_refl _) (by omega)
  rw [ha] at he
  injection he with he
  subst he
  have := World.block_lt_of_cell? _ _ x0
  simp only [add_block] at this
  omega
theorem C_only {w w1 : World} {g n : Nat} {A : Option Addr} {l : List S55} (h : Kd.C k55 w A n l) (ho : Only w w1 g) (hne : Off A n g) : Kd.C k55 w1 A n l := by
  refine ⟨h.1, h.2.1, fun hn => ?_⟩
  obtain ⟨ad, e, hc⟩ := h.2.2 hn
  refine ⟨ad, e, fun j p hj => ?_⟩
  obtain ⟨c, h1, h2, h3⟩ := hc j p hj
  refine ⟨c, h1, ?_, fun i u hu => keepO ho (h3 i u hu) (by rw [add_block]; exact hne hn ad e)⟩
  rw [k55_open h2]; exact k55_mk w1 p
def putOneV (l : List S55) (s : S55) : List S55 := if wh s.f0 s.f1 then addV l s else l
def putV (l ls : List S55) : List S55 := ls.foldl putOneV l
/-- Blocks of whole spans. -/
def wmem (ls : List S55) (k : Int) : Prop := ∃ s ∈ ls, wh s.f0 s.f1 ∧ inSp s k
theorem putV_spec : ∀ (ls l : List S55), Tidy 0 l → Tidy 0 (putV l ls) ∧ ∀ k, mem (putV l ls) k ↔ mem l k ∨ wmem ls k
  | [], l, h => ⟨h, fun k => by show mem l k ↔ _; unfold wmem; simp⟩
  | s :: ls, l, h => by
    show Tidy 0 (putV (putOneV l s) ls) ∧ ∀ k, mem (putV (putOneV l s) ls) k ↔ _
    unfold putOneV wmem
    by_cases hs : wh s.f0 s.f1
    · rw [if_pos hs]
      obtain ⟨a1, a2⟩ := addV_spec h hs
      obtain ⟨b1, b2⟩ := putV_spec ls _ a1
      refine ⟨b1, fun k => ?_⟩
      rw [b2 k, a2 k]
      unfold wmem
      constructor
      · rintro ((h | h) | ⟨x, h1, h2⟩)
        · exact .inl h
        · exact .inr ⟨s, List.mem_cons_self, hs, h⟩
        · exact .inr ⟨x, List.mem_cons_of_mem _ h1, h2⟩
      · rintro (h | ⟨x, h1, h2⟩)
        · exact .inl (.inl h)
        · rcases List.mem_cons.1 h1 with rfl | h1
          · exact .inl (.inr h2.2)
          · exact .inr ⟨x, h1, h2⟩
    · rw [if_neg hs]
      obtain ⟨b1, b2⟩ := putV_spec ls _ h
      refine ⟨b1, fun k => ?_⟩
      rw [b2 k]
      unfold wmem
      constructor
      · rintro (h | ⟨x, h1, h2⟩)
        · exact .inl h
        · exact .inr ⟨x, List.mem_cons_of_mem _ h1, h2⟩
      · rintro (h | ⟨x, h1, h2⟩)
        · exact .inl h
        · rcases List.mem_cons.1 h1 with rfl | h1
          · exact absurd h2.1 hs
          · exact .inr ⟨x, h1, h2⟩
set_option maxRecDepth 100000 in
set_option maxHeartbeats 1600000 in
theorem runs_put (base g : Nat) (l ls : List S55) (A : Option Addr) (c : Nat) (w : World) (hT : Tidy 0 l) (h : RunsAt w base g l) (hbase : base ≤ w.heap.size) (hC : Kd.C k55 w A ls.length ls) (hne : Off A ls.length g) :
    Calls Tryd.prog 26 #[ptrR g, .slice A ls.length c] w fun e w' => e = .returned (.int .i64 (sumN (putV l ls) - sumN l)) ∧ RunsAt w' base g (putV l ls) ∧ Only w w' g := by
  have hln : ls.length ≤ 9223372036854775807 := by have := hC.2.1; unfold maxLen at this; omega
  have HT := Aside0.mk hT
  have H := Aside0.mk h
  have HC := Aside0.mk hC
  have Hne := Aside0.mk hne
  have Hbase := Aside0.mk hbase
  obtain ⟨s0, s1⟩ := hT.sum (by decide)
  clear h hT hC hne hbase
  go_enter Tryd.func26, Tryd.ntmps26
  go_wp2_with fail
  refine (runs_count base g l _ HT.out H.out).mono ?_
  rintro e w1 ⟨rfl, hB⟩
  have HO1 : Aside0 (Only w w1 g) := ⟨only_below (only_refl _ _) hB⟩
  have HR1 := Aside0.mk (H.out.keep hB)
  clear hB
  generalize hz : sumN l = z at *
  go_wp2_with fail
  go_loopg [14] ls.length (fun kq v wq => ∃ i : Nat, i + kq = ls.length ∧ v = .int .i64 (i : Int) ∧ Aside0 (Only w wq g) ∧ Aside0 (RunsAt wq base g (putV l (ls.take i))))
  case atStart => exact ⟨0, by omega, rfl, HO1, HR1⟩
  case round =>
    clear HO1 HR1
    obtain ⟨i, hi, rfl, HO, HR⟩ := hrel
    have HTi := Aside0.mk (putV_spec (ls.take i) l HT.out).1
    by_cases hlt : i < ls.length
    · obtain ⟨ad, e1, x0, x1⟩ := at_T55 (C_only HC.out HO.out Hne.out) (i : Int) (by omega) (by omega)
      subst e1
      rw [Int.toNat_natCast, rd_get ls i hlt] at x0 x1
      have hlt' : (i : Int) < (ls.length : Int) := by omega
      have hone : Aside0 (putV l (ls.take (i + 1)) = putOneV (putV l (ls.take i)) ls[i]) := ⟨foldl_snoc putOneV l ls i hlt⟩
      generalize ls[i] = X at *
      obtain ⟨F, M⟩ := X
      simp only at x0 x1
      have Hv := Aside0.mk (valid_eq F M 64 (by decide))
      obtain ⟨kk, rfl⟩ : ∃ z, gk = z + 1 := ⟨gk - 1, by omega⟩
      by_cases hw : wh F M
      · have Hv2 : Aside0 (span_Valid.f F M 64 = some true) := ⟨by rw [Hv.out, decide_eq_true ⟨hw, hw.2.2⟩]⟩
        have hone2 : Aside0 (putV l (ls.take (i + 1)) = addV (putV l (ls.take i)) ⟨F, M⟩) := ⟨by rw [hone.out]; unfold putOneV; rw [if_pos hw]⟩
        have Hw := Aside0.mk hw
        clear hw hone Hv
        go_wp2_with fail
        refine (span_Valid.calls F M 64 true _ Hv2.out).mono ?_
        rintro e w2 ⟨rfl, hB⟩
        have HX2 : Aside0 (Blk w2 wr.heap.size 55 #[.int .i64 F, .int .i64 M]) := ⟨(Blk.new wr _ _).keep hB⟩
        have HO2 : Aside0 (Only w w2 g) := ⟨only_below (only_alloc HO.out _) hB⟩
        have HR2 : Aside0 (RunsAt w2 base g (putV l (ls.take i))) := ⟨(HR.out.keep (below_alloc (Below.refl _ _) _)).keep hB⟩
        have c1 := HX2.out.cell (i := 0) rfl
        have c2 := HX2.out.cell (i := 1) rfl
        clear hB x0 x1
        go_wp2_with fail
        refine (runs_add base g _ F M _ HR2.out HTi.out Hw.out (by have := HO2.out.size; have := Hbase.out; omega)).mono ?_
        rintro e w3 ⟨rfl, hr, ho⟩
        have HO3 : Aside0 (Only w w3 g) := ⟨only_trans HO2.out ho⟩
        have HR3 := Aside0.mk hr
        clear hr ho c1 c2
        go_wp2_with fail
        go_roundg kk
        case measure => omega
        case rel => exact ⟨i + 1, by omega, by go_num, HO3, by rw [hone2.out]; exact HR3⟩
      · have Hv2 : Aside0 (span_Valid.f F M 64 = some false) := ⟨by rw [Hv.out, decide_eq_false (fun h => hw h.1)]⟩
        have hone2 : Aside0 (putV l (ls.take (i + 1)) = putV l (ls.take i)) := ⟨by rw [hone.out]; unfold putOneV; rw [if_neg hw]⟩
        clear hw hone Hv
        go_wp2_with fail
        refine (span_Valid.calls F M 64 false _ Hv2.out).mono ?_
        rintro e w2 ⟨rfl, hB⟩
        have HO2 : Aside0 (Only w w2 g) := ⟨only_below (only_alloc HO.out _) hB⟩
        have HR2 : Aside0 (RunsAt w2 base g (putV l (ls.take i))) := ⟨(HR.out.keep (below_alloc (Below.refl _ _) _)).keep hB⟩
        clear hB x0 x1
        go_wp2_with fail
        go_roundg kk
        case measure => omega
        case rel => exact ⟨i + 1, by omega, by go_num, HO2, by rw [hone2.out]; exact HR2⟩
    · have hlt' : ¬ (i : Int) < (ls.length : Int) := by omega
      obtain rfl : i = ls.length := by omega
      rw [List.take_length] at HR HTi
      go_wp2_with fail
      refine (runs_count base g _ _ HTi.out HR.out).mono ?_
      rintro e w2 ⟨rfl, hB⟩
      obtain ⟨t0, t1⟩ := HTi.out.sum (by decide)
      have HR2 := Aside0.mk (HR.out.keep hB)
      have HO2 : Aside0 (Only w w2 g) := ⟨only_below HO.out hB⟩
      clear hB
      generalize hy : sumN (putV l ls) = y at *
      go_wp2_with fail
      go_ret
      exact ⟨by rw [hz, hy]; rfl, HR2.out, HO2.out⟩
set_option maxRecDepth 100000 in
theorem runs_of (ls : List S55) (A : Option Addr) (c : Nat) (w : World) (hC : Kd.C k55 w A ls.length ls) :
    Calls Tryd.prog 25 #[.slice A ls.length c] w fun e w' => e = .returned (ptrR w.heap.size) ∧ RunsAt w' w.heap.size w.heap.size (putV [] ls) ∧ Below w.heap.size w w' := by
  have HC := Aside0.mk hC
  have Hne := Aside0.mk (off_lt hC (Nat.le_refl _))
  clear hC
  go_enter Tryd.func25, Tryd.ntmps25
  go_wp2_with fail
  refine (runs_put w.heap.size w.heap.size [] ls A c _ trivial ⟨_, Blk.new _ _ _, own_alloc (ORow.nil _ _) _⟩ (by simp) (Kd.C_below HC.out (below_alloc (Below.refl _ _) _)) Hne.out).mono ?_
  rintro e w1 ⟨rfl, hr, ho⟩
  have HR := Aside0.mk hr
  have HB : Aside0 (Below w.heap.size w w1) := ⟨below_only (below_alloc (Below.refl _ _) _) ho (Nat.le_refl _)⟩
  clear hr ho
  go_wp2_with fail
  go_ret
  exact ⟨rfl, HR.out, HB.out⟩
end Go.Proofs.YtknphhcppllpoaaDoor.Hand
end
section
namespace Go.Proofs.YtknphhcppllpoaaDoor.Hand
open Go.RowKit Go.Proofs.YtknphhcppllpoaaDoorW.PrintWords Go.Proofs.YtknphhcppllpoaaDoorW.PrintLast Go.Proofs.YtknphhcppllpoaaDoorW.PrintMore Go.Proofs.YtknphhcppllpoaaDoor.A
set_option linter.unusedVariables false
set_option linter.unusedSimpArgs false
attribute [local go_sem] max2_int min2_int max_two min_two max_three min_three max_four min_four
theorem str_inj {a b : ByteArray} (h : a.toList = b.toList) : a = b := by
  rw [ByteArray.toList_eq, ByteArray.toList_eq] at h
  cases a; cases b; congr; exact Array.toList_inj.1 h
theorem C_nil0 (w : World) : Kd.C k55 w none 0 [] := ⟨rfl, by decide, fun h => by omega⟩
theorem C_lit1 (w : World) (x : S55) : Kd.C k55 (w.alloc (.cells #[.int .i64 x.f0, .int .i64 x.f1] 55)) (some ⟨w.heap.size, 0, none⟩) 1 [x] := by
  refine ⟨rfl, by decide, fun _ => ⟨_, rfl, fun j p hj => ?_⟩⟩
  cases j with
  | succ j => simp at hj
  | zero =>
    injection hj with hj
    subst hj
    refine ⟨[.int .i64 x.f0, .int .i64 x.f1], rfl, k55_mk _ _, fun q u hq => ?_⟩
    rw [Addr.add_lit]
    match q, hq with
    | 0, hq => injection hq with hq; subst hq; exact (Blk.new w _ _).cell rfl
    | 1, hq => injection hq with hq; subst hq; exact (Blk.new w _ _).cell rfl
    | q + 2, hq => simp at hq
/-- Which of the first so many are not alike, as few spans as may be. -/
def unlV (x y : Nat → ByteArray × Int) : Nat → List S55
  | 0 => []
  | k + 1 => if x k = y k then unlV x y k else addV (unlV x y k) ⟨(k : Int), 1⟩
theorem unlV_spec (x y : Nat → ByteArray × Int) : ∀ n, n ≤ 64 → Tidy 0 (unlV x y n) ∧ ∀ j, mem (unlV x y n) j ↔ 0 ≤ j ∧ j < n ∧ x j.toNat ≠ y j.toNat
  | 0, _ => ⟨trivial, fun j => ⟨fun h => (by obtain ⟨_, h, _⟩ := h; cases h), fun h => (by omega)⟩⟩
  | k + 1, hk => by
    obtain ⟨h1, h2⟩ := unlV_spec x y k (by omega)
    unfold unlV
    split
    · rename_i he
      refine ⟨h1, fun j => (h2 j).trans ⟨fun h => ⟨h.1, by omega, h.2.2⟩, fun h => ⟨h.1, ?_, h.2.2⟩⟩⟩
      rcases Int.lt_or_le j k with h3 | h3
      · exact h3
      · obtain rfl : j = (k : Int) := by omega
        exact absurd (by rw [Int.toNat_natCast]; exact he) h.2.2
    · rename_i he
      obtain ⟨a, b⟩ := addV_spec h1 (s := ⟨(k : Int), 1⟩) ⟨by simp only; omega, by simp only; omega, by simp only; omega⟩
      refine ⟨a, fun j => (b j).trans ?_⟩
      rw [h2 j]
      unfold inSp
      simp only
      constructor
      · rintro (h | h)
        · exact ⟨h.1, by omega, h.2.2⟩
        · obtain rfl : j = (k : Int) := by omega
          exact ⟨by omega, by omega, by rw [Int.toNat_natCast]; exact he⟩
      · intro h
        rcases Int.lt_or_le j k with h3 | h3
        · exact .inl ⟨h.1, h3, h.2.2⟩
        · exact .inr (by omega)
theorem putV_one (l : List S55) (k : Nat) (hk : k < 64) : putV l [⟨(k : Int), 1⟩] = addV l ⟨(k : Int), 1⟩ := by
  show putOneV l _ = _
  unfold putOneV
  rw [if_pos ⟨by simp only; omega, by simp only; omega, by simp only; omega⟩]
set_option maxRecDepth 100000 in
set_option maxHeartbeats 1600000 in
theorem film_unlike_of (P0 P1 : Value) (hP0 : ∃ a, P0 = .pointer a) (hP1 : ∃ a, P1 = .pointer a) (b1 b2 : Nat) (h1 : b1 ≤ 64) (h2 : b2 ≤ 64) (x y : Nat → ByteArray × Int) (w : World)
    (hB0 : ∀ W, Below w.heap.size w W → Calls Tryd.prog 23 #[P0] W fun e w' => e = .returned (.int .i64 b1) ∧ w' = W)
    (hB1 : ∀ W, Below w.heap.size w W → Calls Tryd.prog 23 #[P1] W fun e w' => e = .returned (.int .i64 b2) ∧ w' = W)
    (hX : ∀ W k, k < max b1 b2 → Below w.heap.size w W → Calls Tryd.prog 11 #[P0, .int .i64 (k : Int)] W fun e w' => e = .returned (.tuple #[.string (x k).1, .int .i64 (x k).2]) ∧ w' = W)
    (hY : ∀ W k, k < max b1 b2 → Below w.heap.size w W → Calls Tryd.prog 11 #[P1, .int .i64 (k : Int)] W fun e w' => e = .returned (.tuple #[.string (y k).1, .int .i64 (y k).2]) ∧ w' = W) :
    Calls Tryd.prog 14 #[P0, P1] w fun e w' => ∃ v, e = .returned v ∧ ORow w' w.heap.size v (unlV x y (max b1 b2)) ∧ Below w.heap.size w w' := by
  obtain ⟨a0, rfl⟩ := hP0
  obtain ⟨a1, rfl⟩ := hP1
  have HB0 := Aside0.mk hB0
  have HB1 := Aside0.mk hB1
  have HX := Aside0.mk hX
  have HY := Aside0.mk hY
  obtain ⟨n, hn⟩ : ∃ n, n = max b1 b2 := ⟨_, rfl⟩
  have hn64 := Aside0.mk (show n ≤ 64 by omega)
  have hmax : Aside0 (max (b1 : Int) (b2 : Int) = (n : Int)) := ⟨by omega⟩
  rw [← hn] at HX HY ⊢
  have hcase : ((b1 : Int) < (b2 : Int) ∧ n = b2) ∨ (¬ (b1 : Int) < (b2 : Int) ∧ n = b1) := by omega
  clear hB0 hB1 hX hY hn hmax
  rcases hcase with ⟨hbb, hn⟩ | ⟨hbb, hn⟩
  · subst hn
    go_enter Tryd.func14, Tryd.ntmps14
    go_wp2_with fail
    refine (runs_of [] none 0 _ (C_nil0 _)).mono ?_
    rintro e w1 ⟨rfl, hr, hB⟩
    have HW1 := Aside0.mk hB
    have HR1 := Aside0.mk hr
    clear hr hB
    go_wp2_with fail
    refine (HB0.out _ HW1.out).mono ?_
    rintro e w2 ⟨rfl, rfl⟩
    go_wp2_with fail
    refine (HB1.out _ HW1.out).mono ?_
    rintro e w3 ⟨rfl, rfl⟩
    go_wp2_with fail
    go_loopg [17] n (fun kq v wq => ∃ k : Nat, k + kq = n ∧ v = .int .i64 (k : Int) ∧ Aside0 (Below w.heap.size w wq) ∧ Aside0 (RunsAt wq w.heap.size w.heap.size (unlV x y k)))
    case atStart => exact ⟨0, by omega, rfl, HW1, HR1⟩
    case round =>
      obtain ⟨k, hk, rfl, HW, HR⟩ := hrel
      have hT := Aside0.mk (fun h => (unlV_spec x y k h).1)
      by_cases hlt : k < n
      · obtain ⟨kk, rfl⟩ : ∃ z, gk = z + 1 := ⟨gk - 1, by omega⟩
        have hlt' : (k : Int) < (n : Int) := by omega
        have hk64 : (k : Int) ≤ 64 := by have := hn64.out; omega
        have hone : Aside0 (unlV x y (k + 1) = if x k = y k then unlV x y k else addV (unlV x y k) ⟨(k : Int), 1⟩) := ⟨rfl⟩
        have hpv := Aside0.mk (putV_one (unlV x y k) k (by have := hn64.out; omega))
        have hTk := Aside0.mk (hT.out (by have := hn64.out; omega))
        have HXk := Aside0.mk (HX.out _ k hlt HW.out)
        have HYk := Aside0.mk (HY.out _ k hlt HW.out)
        clear hT
        generalize x k = X at *
        generalize y k = Y at *
        obtain ⟨xs, xe⟩ := X
        obtain ⟨ys, ye⟩ := Y
        simp only at HXk HYk
        by_cases he : xe = ye
        · by_cases hs : xs = ys
          · subst he hs
            rw [if_pos rfl] at hone
            go_wp2_with fail
            refine HXk.out.mono ?_
            rintro e w5 ⟨rfl, rfl⟩
            go_wp2_with fail
            refine HYk.out.mono ?_
            rintro e w6 ⟨rfl, rfl⟩
            go_wp2_with fail
            go_roundg kk
            case measure => omega
            case rel => exact ⟨k + 1, by omega, by go_num, HW, ⟨by rw [hone.out]; exact HR.out⟩⟩
          · subst he
            rw [if_neg (fun h => hs (congrArg Prod.fst h))] at hone
            have hsl : (xs.toList == ys.toList) = false := beq_eq_false_iff_ne.2 (fun h => hs (str_inj h))
            clear hs
            go_wp2_with fail
            refine HXk.out.mono ?_
            rintro e w5 ⟨rfl, rfl⟩
            go_wp2_with fail
            refine HYk.out.mono ?_
            rintro e w6 ⟨rfl, rfl⟩
            go_wp2_with fail
            refine (runs_put w.heap.size w.heap.size (unlV x y k) [⟨(k : Int), 1⟩] _ 1 _ hTk.out (HR.out.keep (below_alloc (Below.refl _ _) _)) (Nat.le_trans HW.out.size (by simp)) (C_lit1 w6 ⟨(k : Int), 1⟩) ?_).mono ?_
            · intro _ a ha
              injection ha with ha
              subst ha
              have := HR.out.lt
              simp only
              omega
            rintro e w7 ⟨rfl, hr, ho⟩
            rw [hpv.out] at hr ⊢
            have HR7 := Aside0.mk hr
            have HW7 : Aside0 (Below w.heap.size w w7) := ⟨below_only (below_alloc HW.out _) ho (Nat.le_refl _)⟩
            clear hr ho
            go_wp2_with fail
            go_roundg kk
            case measure => omega
            case rel => exact ⟨k + 1, by omega, by go_num, HW7, ⟨by rw [hone.out]; exact HR7.out⟩⟩
        · rw [if_neg (fun h => he (congrArg Prod.snd h))] at hone
          go_wp2_with fail
          refine HXk.out.mono ?_
          rintro e w5 ⟨rfl, rfl⟩
          go_wp2_with fail
          refine HYk.out.mono ?_
          rintro e w6 ⟨rfl, rfl⟩
          go_wp2_with fail
          refine (runs_put w.heap.size w.heap.size (unlV x y k) [⟨(k : Int), 1⟩] _ 1 _ hTk.out (HR.out.keep (below_alloc (Below.refl _ _) _)) (Nat.le_trans HW.out.size (by simp)) (C_lit1 w6 ⟨(k : Int), 1⟩) ?_).mono ?_
          · intro _ a ha
            injection ha with ha
            subst ha
            have := HR.out.lt
            simp only
            omega
          rintro e w7 ⟨rfl, hr, ho⟩
          rw [hpv.out] at hr ⊢
          have HR7 := Aside0.mk hr
          have HW7 : Aside0 (Below w.heap.size w w7) := ⟨below_only (below_alloc HW.out _) ho (Nat.le_refl _)⟩
          clear hr ho
          go_wp2_with fail
          go_roundg kk
          case measure => omega
          case rel => exact ⟨k + 1, by omega, by go_num, HW7, ⟨by rw [hone.out]; exact HR7.out⟩⟩
      · obtain rfl : k = n := by omega
        have hlt' : ¬ (k : Int) < (k : Int) := by omega
        have hTk := Aside0.mk (hT.out (by have := hn64.out; omega))
        clear hT
        have hlen : (unlV x y k).length ≤ 1000000 := by have := hTk.out.length (by decide); omega
        go_wp2_with fail
        refine (runs_all w.heap.size w.heap.size _ hlen _ HR.out).mono ?_
        rintro e w5 ⟨v, rfl, ho, hB⟩
        have HO := Aside0.mk (ho.lower HW.out.size)
        have HW5 := Aside0.mk (below_step HW.out hB)
        clear ho hB
        obtain ⟨A1, c1, hv, _⟩ := HO.out.reads
        subst hv
        go_wp2_with fail
        go_ret
        exact ⟨_, rfl, HO.out, HW5.out⟩
  · subst hn
    go_enter Tryd.func14, Tryd.ntmps14
    go_wp2_with fail
    refine (runs_of [] none 0 _ (C_nil0 _)).mono ?_
    rintro e w1 ⟨rfl, hr, hB⟩
    have HW1 := Aside0.mk hB
    have HR1 := Aside0.mk hr
    clear hr hB
    go_wp2_with fail
    refine (HB0.out _ HW1.out).mono ?_
    rintro e w2 ⟨rfl, rfl⟩
    go_wp2_with fail
    refine (HB1.out _ HW1.out).mono ?_
    rintro e w3 ⟨rfl, rfl⟩
    go_wp2_with fail
    go_loopg [17] n (fun kq v wq => ∃ k : Nat, k + kq = n ∧ v = .int .i64 (k : Int) ∧ Aside0 (Below w.heap.size w wq) ∧ Aside0 (RunsAt wq w.heap.size w.heap.size (unlV x y k)))
    case atStart => exact ⟨0, by omega, rfl, HW1, HR1⟩
    case round =>
      obtain ⟨k, hk, rfl, HW, HR⟩ := hrel
      have hT := Aside0.mk (fun h => (unlV_spec x y k h).1)
      by_cases hlt : k < n
      · obtain ⟨kk, rfl⟩ : ∃ z, gk = z + 1 := ⟨gk - 1, by omega⟩
        have hlt' : (k : Int) < (n : Int) := by omega
        have hk64 : (k : Int) ≤ 64 := by have := hn64.out; omega
        have hone : Aside0 (unlV x y (k + 1) = if x k = y k then unlV x y k else addV (unlV x y k) ⟨(k : Int), 1⟩) := ⟨rfl⟩
        have hpv := Aside0.mk (putV_one (unlV x y k) k (by have := hn64.out; omega))
        have hTk := Aside0.mk (hT.out (by have := hn64.out; omega))
        have HXk := Aside0.mk (HX.out _ k hlt HW.out)
        have HYk := Aside0.mk (HY.out _ k hlt HW.out)
        clear hT
        generalize x k = X at *
        generalize y k = Y at *
        obtain ⟨xs, xe⟩ := X
        obtain ⟨ys, ye⟩ := Y
        simp only at HXk HYk
        by_cases he : xe = ye
        · by_cases hs : xs = ys
          · subst he hs
            rw [if_pos rfl] at hone
            go_wp2_with fail
            refine HXk.out.mono ?_
            rintro e w5 ⟨rfl, rfl⟩
            go_wp2_with fail
            refine HYk.out.mono ?_
            rintro e w6 ⟨rfl, rfl⟩
            go_wp2_with fail
            go_roundg kk
            case measure => omega
            case rel => exact ⟨k + 1, by omega, by go_num, HW, ⟨by rw [hone.out]; exact HR.out⟩⟩
          · subst he
            rw [if_neg (fun h => hs (congrArg Prod.fst h))] at hone
            have hsl : (xs.toList == ys.toList) = false := beq_eq_false_iff_ne.2 (fun h => hs (str_inj h))
            clear hs
            go_wp2_with fail
            refine HXk.out.mono ?_
            rintro e w5 ⟨rfl, rfl⟩
            go_wp2_with fail
            refine HYk.out.mono ?_
            rintro e w6 ⟨rfl, rfl⟩
            go_wp2_with fail
            refine (runs_put w.heap.size w.heap.size (unlV x y k) [⟨(k : Int), 1⟩] _ 1 _ hTk.out (HR.out.keep (below_alloc (Below.refl _ _) _)) (Nat.le_trans HW.out.size (by simp)) (C_lit1 w6 ⟨(k : Int), 1⟩) ?_).mono ?_
            · intro _ a ha
              injection ha with ha
              subst ha
              have := HR.out.lt
              simp only
              omega
            rintro e w7 ⟨rfl, hr, ho⟩
            rw [hpv.out] at hr ⊢
            have HR7 := Aside0.mk hr
            have HW7 : Aside0 (Below w.heap.size w w7) := ⟨below_only (below_alloc HW.out _) ho (Nat.le_refl _)⟩
            clear hr ho
            go_wp2_with fail
            go_roundg kk
            case measure => omega
            case rel => exact ⟨k + 1, by omega, by go_num, HW7, ⟨by rw [hone.out]; exact HR7.out⟩⟩
        · rw [if_neg (fun h => he (congrArg Prod.snd h))] at hone
          go_wp2_with fail
          refine HXk.out.mono ?_
          rintro e w5 ⟨rfl, rfl⟩
          go_wp2_with fail
          refine HYk.out.mono ?_
          rintro e w6 ⟨rfl, rfl⟩
          go_wp2_with fail
          refine (runs_put w.heap.size w.heap.size (unlV x y k) [⟨(k : Int), 1⟩] _ 1 _ hTk.out (HR.out.keep (below_alloc (Below.refl _ _) _)) (Nat.le_trans HW.out.size (by simp)) (C_lit1 w6 ⟨(k : Int), 1⟩) ?_).mono ?_
          · intro _ a ha
            injection ha with ha
            subst ha
            have := HR.out.lt
            simp only
            omega
          rintro e w7 ⟨rfl, hr, ho⟩
          rw [hpv.out] at hr ⊢
          have HR7 := Aside0.mk hr
          have HW7 : Aside0 (Below w.heap.size w w7) := ⟨below_only (below_alloc HW.out _) ho (Nat.le_refl _)⟩
          clear hr ho
          go_wp2_with fail
          go_roundg kk
          case measure => omega
          case rel => exact ⟨k + 1, by omega, by go_num, HW7, ⟨by rw [hone.out]; exact HR7.out⟩⟩
      · obtain rfl : k = n := by omega
        have hlt' : ¬ (k : Int) < (k : Int) := by omega
        have hTk := Aside0.mk (hT.out (by have := hn64.out; omega))
        clear hT
        have hlen : (unlV x y k).length ≤ 1000000 := by have := hTk.out.length (by decide); omega
        go_wp2_with fail
        refine (runs_all w.heap.size w.heap.size _ hlen _ HR.out).mono ?_
        rintro e w5 ⟨v, rfl, ho, hB⟩
        have HO := Aside0.mk (ho.lower HW.out.size)
        have HW5 := Aside0.mk (below_step HW.out hB)
        clear ho hB
        obtain ⟨A1, c1, hv, _⟩ := HO.out.reads
        subst hv
        go_wp2_with fail
        go_ret
        exact ⟨_, rfl, HO.out, HW5.out⟩
/-- What a block shows, or that there is none. -/
def blkV (l : List UInt8) (b k : Nat) : ByteArray × Int := if k < b then (blkS l k, 0) else (⟨#[]⟩, 2)
theorem film_block_v (g q : Nat) (l : List UInt8) (b k : Nat) (w : World) (hf : FilmAt w g q l) (hl : l.length = 8 * b) (hb : b ≤ 64) :
    Calls Tryd.prog 11 #[.pointer (some ⟨g, 0, none⟩), .int .i64 (k : Int)] w fun e w' => e = .returned (.tuple #[.string (blkV l b k).1, .int .i64 (blkV l b k).2]) ∧ w' = w := by
  unfold blkV
  by_cases h : k < b
  · rw [if_pos h]; exact film_block g q l b k w hf hl hb h
  · rw [if_neg h]; exact film_block_no g q l b k w hf hl hb (.inr ⟨by omega, by omega⟩)
theorem film_unlike (g q g' q' : Nat) (l m : List UInt8) (b b' : Nat) (w : World) (hf : FilmAt w g q l) (hf' : FilmAt w g' q' m) (hl : l.length = 8 * b) (hb : b ≤ 64) (hm : m.length = 8 * b') (hb' : b' ≤ 64) :
    Calls Tryd.prog 14 #[.pointer (some ⟨g, 0, none⟩), .pointer (some ⟨g', 0, none⟩)] w fun e w' => ∃ v, e = .returned v ∧ ORow w' w.heap.size v (unlV (blkV l b) (blkV m b') (max b b')) ∧ Below w.heap.size w w' :=
  film_unlike_of _ _ ⟨_, rfl⟩ ⟨_, rfl⟩ b b' hb hb' (blkV l b) (blkV m b') w (fun W hW => film_blocks g q l b W (hf.keep hW) hl) (fun W hW => film_blocks g' q' m b' W (hf'.keep hW) hm)
    (fun W k _ hW => film_block_v g q l b k W (hf.keep hW) hl hb) (fun W k _ hW => film_block_v g' q' m b' k W (hf'.keep hW) hm hb')
theorem film_unlike_nil (g' q' : Nat) (m : List UInt8) (b' : Nat) (w : World) (hf' : FilmAt w g' q' m) (hm : m.length = 8 * b') (hb' : b' ≤ 64) :
    Calls Tryd.prog 14 #[.pointer none, .pointer (some ⟨g', 0, none⟩)] w fun e w' => ∃ v, e = .returned v ∧ ORow w' w.heap.size v (unlV (fun _ => (⟨#[]⟩, 1)) (blkV m b') (max 0 b')) ∧ Below w.heap.size w w' :=
  film_unlike_of _ _ ⟨_, rfl⟩ ⟨_, rfl⟩ 0 b' (by decide) hb' _ (blkV m b') w (fun W hW => film_blocks_nil W) (fun W hW => film_blocks g' q' m b' W (hf'.keep hW) hm)
    (fun W k _ hW => film_block_nil k W) (fun W k _ hW => film_block_v g' q' m b' k W (hf'.keep hW) hm hb')
end Go.Proofs.YtknphhcppllpoaaDoor.Hand
end
