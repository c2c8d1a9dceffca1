/- Parts of the proof for DirtPlays: RunsB, RunsD, Kept, RunsH, Alg, Alg2, DirtR, DirtN, DirtB. -/
import Derived.Lib.SliceRun
import Derived.Test.YtffemlfdhkndiaaJDirtPlays4
import Derived.Test.YtffemlfdhkndiaaJDirtPlays2
import Derived.Test.YtffemlfdhkndiaaJDirtPlays3
section
namespace Go.Proofs.Ytffemlfdhkndiaa.Hand
open Go.RowKit Go.Proofs.YtffemlfdhkndiaaW.PrintWords Go.Proofs.YtffemlfdhkndiaaW.PrintLast Go.Proofs.YtffemlfdhkndiaaW.PrintMore Go.Proofs.Ytffemlfdhkndiaa.A
set_option linter.unusedVariables false
set_option linter.unusedSimpArgs false
attribute [local go_sem] max2_int min2_int max_two min_two max_three min_three max_four min_four
theorem clone_nil (w : World) :
    Calls Try.prog 55 #[.slice none 0 0] w fun e w' => ∃ v, e = .returned v ∧ ORow w' w.heap.size v [] ∧ Below w.heap.size w w' := by
  have q0 := fun W => Lib.run_eql_slice_nil (P := Try.prog) W 22 31 none 0 0 0 0 Try.underlying22
  go_enter Try.func55, Try.ntmps55
  go_wp2_with fail
  go_ret
  exact ⟨_, rfl, ORow.nil _ _, Below.refl _ _⟩
set_option maxRecDepth 100000 in
theorem clone_some (a : Addr) (c : Nat) (l : List S31) (hn : l.length ≤ 1000000) (w : World) (hC : Kd.C k31 w (some a) l.length l) :
    Calls Try.prog 55 #[.slice (some a) l.length c] w fun e w' => ∃ v, e = .returned v ∧ ORow w' w.heap.size v l ∧ Below w.heap.size w w' := by
  have q0 := fun W => Lib.run_eql_slice_nil (P := Try.prog) W 22 31 (some a) l.length c 0 0 Try.underlying22
  have HC := Aside0.mk hC
  have Hn := Aside0.mk hn
  clear hC hn
  go_enter Try.func55, Try.ntmps55
  go_wp2_with ((with_reducible refine gate_builtin (b := .append) (xs := #[.tmp 5, .tmp 6]) rfl ?_); at_builtin; refine Kd.R_append_rows k31 (Rr := k31.K (w.alloc (.cells #[] 31))) (w0 := w) w.heap.size rfl (.tmp 5) (.tmp 6) 22 31 (.agg #[(.int .i64 0), (.int .i64 0)]) 16 rfl Try.underlying22 info31' rfl (by decide) (by decide) (.slice (some ⟨w.heap.size, 0, none⟩) 0 0) [] l (some a) l.length c (fun _ => True) (fun _ => False) rfl rfl ?aO ?aR ?aK (fun _ h => h.elim) (fun _ _ => trivial) ?aB ?aS ?aL ?_; (case aO => exact ⟨fun _ _ => trivial, [], World.ownsRow_lit w #[] 0 (Nat.le_refl _) (by decide) rfl, Reps.none _ _⟩); (case aR => exact Kd.C_below HC.out (below_alloc (Below.refl _ _) _)); (case aK => (intro x cs hk; rw [k31_open hk]; exact k31_mkM _ _ _ _)); (case aB => exact below_alloc (Below.refl _ _) _); (case aS => simp); (case aL => (have := Hn.out; simp only [List.length_nil]; omega)); intro v1 w1 ho hb hg hat; have HO := Aside0.mk (ORow.of_R ho); have HB := Aside0.mk hb; clear ho hb hg hat)
  obtain ⟨A1, c1, hv, _⟩ := HO.out.reads
  subst hv
  go_ret
  exact ⟨_, rfl, HO.out, HB.out⟩
set_option maxRecDepth 100000 in
theorem runs_all (base g : Nat) (l : List S31) (hn : l.length ≤ 1000000) (w : World) (h : RunsAt w base g l) :
    Calls Try.prog 26 #[ptrR g] w fun e w' => ∃ v, e = .returned v ∧ ORow w' w.heap.size v l ∧ Below w.heap.size w w' := by
  obtain ⟨v0, hb, ho⟩ := h
  have hcl : ∀ v0, ORow w base v0 l → Calls Try.prog 55 #[v0] w fun e w' => ∃ v, e = .returned v ∧ ORow w' w.heap.size v l ∧ Below w.heap.size w w' := by
    intro v0 ho
    obtain ⟨A, c, rfl, hlc, hC, _⟩ := ho.reads
    cases A with
    | none =>
      rcases ho.2 with ⟨he, h0⟩ | ⟨g', cap, cur, he, _⟩
      · obtain rfl : l = [] := List.eq_nil_of_length_eq_zero h0
        rw [he]; exact clone_nil w
      · cases he
    | some a => exact clone_some a c l hn w hC
  have Hcl := Aside0.mk (hcl v0 ho)
  obtain ⟨A, c, rfl, hlc, hC, _⟩ := ho.reads
  have c0 := hb.cell (i := 0) rfl
  clear hb ho hcl hC hlc
  go_enter Try.func26, Try.ntmps26
  go_wp2_with fail
  refine Hcl.out.mono ?_
  rintro e w1 ⟨v, rfl, ho, hB⟩
  have HO := Aside0.mk ho
  have HB := Aside0.mk hB
  clear ho hB
  obtain ⟨A1, c1, hv, _⟩ := HO.out.reads
  subst hv
  go_wp2_with fail
  go_ret
  exact ⟨_, rfl, HO.out, HB.out⟩
theorem sumN_step (l : List S31) (i : Nat) (h : i < l.length) : sumN (l.take (i + 1)) = sumN (l.take i) + l[i].f1 := by
  rw [List.take_succ_eq_append_getElem h, sumN_append, sumN_cons]; simp [sumN]
set_option maxRecDepth 100000 in
theorem runs_count_of (P0 : Value) (l : List S31) (w : World) (hT : Tidy 0 l) (ha : Calls Try.prog 26 #[P0] w fun e w' => ∃ v, e = .returned v ∧ ORow w' w.heap.size v l ∧ Below w.heap.size w w') :
    Calls Try.prog 32 #[P0] w fun e w' => e = .returned (.int .i64 (sumN l)) ∧ Below w.heap.size w w' := by
  have hlen := hT.length (by decide)
  have HT := Aside0.mk hT
  have Hc := Aside0.mk ha
  clear ha hT
  go_enter Try.func32, Try.ntmps32
  go_wp2_with fail
  refine Hc.out.mono ?_
  rintro e w1 ⟨v, rfl, ho, hB⟩
  obtain ⟨A, c, rfl, hlc, hC, _⟩ := ho.reads
  have HB1 := Aside0.mk hB
  have HC := Aside0.mk hC
  clear ho hC hB Hc hlc
  go_wp2_with fail
  go_loopg [3, 9] l.length (fun kq u v wq => ∃ i : Nat, i + kq = l.length ∧ v = .int .i64 (i : Int) ∧ u = .int .i64 (sumN (l.take i)) ∧ Aside0 (Below w1.heap.size w1 wq))
  case atStart => exact ⟨0, by omega, rfl, rfl, ⟨Below.refl _ _⟩⟩
  case round =>
    obtain ⟨i, hi, rfl, rfl, HB⟩ := hrel
    by_cases hlt : i < l.length
    · obtain ⟨ad, e1, x0, x1⟩ := at_T31 (Kd.C_below HC.out HB.out) (i : Int) (by omega) (by omega)
      subst e1
      rw [Int.toNat_natCast, rd_get l i hlt] at x0 x1
      have hlt' : (i : Int) < (l.length : Int) := by omega
      have hs := (HT.out.take i).sum (by decide)
      obtain ⟨hs0, hs1⟩ := hs
      have hw := HT.out.whole (Int.le_refl _) _ (List.getElem_mem hlt)
      obtain ⟨hw0, hw1, hw2⟩ := hw
      have hs2 := Aside0.mk (sumN_step l i hlt)
      generalize sumN (l.take i) = z at *
      generalize l[i] = X at *
      obtain ⟨F, M⟩ := X
      simp only at x0 x1 hw0 hw1 hw2 hs2
      obtain ⟨kk, rfl⟩ : ∃ z, gk = z + 1 := ⟨gk - 1, by omega⟩
      go_wp2_with fail
      go_roundg kk
      case measure => omega
      case rel => exact ⟨i + 1, by omega, by go_num, by rw [hs2.out], ⟨below_alloc HB.out _⟩⟩
    · have hlt' : ¬ (i : Int) < (l.length : Int) := by omega
      obtain rfl : i = l.length := by omega
      rw [List.take_length]
      go_wp2_with fail
      go_ret
      exact ⟨rfl, below_step HB1.out HB.out⟩
theorem runs_count (base g : Nat) (l : List S31) (w : World) (hT : Tidy 0 l) (h : RunsAt w base g l) :
    Calls Try.prog 32 #[ptrR g] w fun e w' => e = .returned (.int .i64 (sumN l)) ∧ Below w.heap.size w w' :=
  runs_count_of _ l w hT (runs_all base g l (by have := hT.length (by decide); omega) w h)
instance (x : S31) (k : Int) : Decidable (inSp x k) := by unfold inSp; infer_instance
end Go.Proofs.Ytffemlfdhkndiaa.Hand
end
section
namespace Go.Proofs.Ytffemlfdhkndiaa.Hand
open Go.RowKit Go.Proofs.YtffemlfdhkndiaaW.PrintWords Go.Proofs.YtffemlfdhkndiaaW.PrintLast Go.Proofs.YtffemlfdhkndiaaW.PrintMore Go.Proofs.Ytffemlfdhkndiaa.A
set_option linter.unusedVariables false
set_option linter.unusedSimpArgs false
attribute [local go_sem] max2_int min2_int max_two min_two max_three min_three max_four min_four
theorem add_block (a : Addr) (j : Nat) : (a.add j).block = a.block := by unfold Addr.add; split <;> rfl
/-- A row (if there is one) is not in a block. -/
def Off (A : Option Addr) (n g : Nat) : Prop := 0 < n → ∀ a, A = some a → a.block ≠ g
theorem off_lt {w : World} {n g : Nat} {A : Option Addr} {l : List S31} (h : Kd.C k31 w A n l) (hg : w.heap.size ≤ g) : Off A n g := by
  intro hn a ha e
  obtain ⟨ad, he, x0, _⟩ := at_T31 h 0 (Int.le_refl _) (by omega)
  rw [ha] at he
  injection he with he
  subst he
  have := World.block_lt_of_cell? _ _ x0
  simp only [add_block] at this
  omega
theorem C_only {w w1 : World} {g n : Nat} {A : Option Addr} {l : List S31} (h : Kd.C k31 w A n l) (ho : Only w w1 g) (hne : Off A n g) : Kd.C k31 w1 A n l := by
  refine ⟨h.1, h.2.1, fun hn => ?_⟩
  obtain ⟨ad, e, hc⟩ := h.2.2 hn
  refine ⟨ad, e, fun j p hj => ?_⟩
  obtain ⟨c, h1, h2, h3⟩ := hc j p hj
  refine ⟨c, h1, ?_, fun i u hu => keepO ho (h3 i u hu) (by rw [add_block]; exact hne hn ad e)⟩
  rw [k31_open h2]; exact k31_mk w1 p
def putOneV (l : List S31) (s : S31) : List S31 := if wh s.f0 s.f1 then addV l s else l
def putV (l ls : List S31) : List S31 := ls.foldl putOneV l
/-- Blocks of whole spans. -/
def wmem (ls : List S31) (k : Int) : Prop := ∃ s ∈ ls, wh s.f0 s.f1 ∧ inSp s k
theorem putV_spec : ∀ (ls l : List S31), Tidy 0 l → Tidy 0 (putV l ls) ∧ ∀ k, mem (putV l ls) k ↔ mem l k ∨ wmem ls k
  | [], l, h => ⟨h, fun k => by show mem l k ↔ _; unfold wmem; simp⟩
  | s :: ls, l, h => by
    show Tidy 0 (putV (putOneV l s) ls) ∧ ∀ k, mem (putV (putOneV l s) ls) k ↔ _
    unfold putOneV wmem
    by_cases hs : wh s.f0 s.f1
    · rw [if_pos hs]
      obtain ⟨a1, a2⟩ := addV_spec h hs
      obtain ⟨b1, b2⟩ := putV_spec ls _ a1
      refine ⟨b1, fun k => ?_⟩
      rw [b2 k, a2 k]
      unfold wmem
      constructor
      · rintro ((h | h) | ⟨x, h1, h2⟩)
        · exact .inl h
        · exact .inr ⟨s, List.mem_cons_self, hs, h⟩
        · exact .inr ⟨x, List.mem_cons_of_mem _ h1, h2⟩
      · rintro (h | ⟨x, h1, h2⟩)
        · exact .inl (.inl h)
        · rcases List.mem_cons.1 h1 with rfl | h1
          · exact .inl (.inr h2.2)
          · exact .inr ⟨x, h1, h2⟩
    · rw [if_neg hs]
      obtain ⟨b1, b2⟩ := putV_spec ls _ h
      refine ⟨b1, fun k => ?_⟩
      rw [b2 k]
      unfold wmem
      constructor
      · rintro (h | ⟨x, h1, h2⟩)
        · exact .inl h
        · exact .inr ⟨x, List.mem_cons_of_mem _ h1, h2⟩
      · rintro (h | ⟨x, h1, h2⟩)
        · exact .inl h
        · rcases List.mem_cons.1 h1 with rfl | h1
          · exact absurd h2.1 hs
          · exact .inr ⟨x, h1, h2⟩
set_option maxRecDepth 100000 in
set_option maxHeartbeats 1600000 in
theorem runs_put (base g : Nat) (l ls : List S31) (A : Option Addr) (c : Nat) (w : World) (hT : Tidy 0 l) (h : RunsAt w base g l) (hbase : base ≤ w.heap.size) (hC : Kd.C k31 w A ls.length ls) (hne : Off A ls.length g) :
    Calls Try.prog 31 #[ptrR g, .slice A ls.length c] w fun e w' => e = .returned (.int .i64 (sumN (putV l ls) - sumN l)) ∧ RunsAt w' base g (putV l ls) ∧ Only w w' g := by
  have hln : ls.length ≤ 9223372036854775807 := by have := hC.2.1; unfold maxLen at this; omega
  have HT := Aside0.mk hT
  have H := Aside0.mk h
  have HC := Aside0.mk hC
  have Hne := Aside0.mk hne
  have Hbase := Aside0.mk hbase
  obtain ⟨s0, s1⟩ := hT.sum (by decide)
  clear h hT hC hne hbase
  go_enter Try.func31, Try.ntmps31
  go_wp2_with fail
  refine (runs_count base g l _ HT.out H.out).mono ?_
  rintro e w1 ⟨rfl, hB⟩
  have HO1 : Aside0 (Only w w1 g) := ⟨only_below (only_refl _ _) hB⟩
  have HR1 := Aside0.mk (H.out.keep hB)
  clear hB
  generalize hz : sumN l = z at *
  go_wp2_with fail
  go_loopg [14] ls.length (fun kq v wq => ∃ i : Nat, i + kq = ls.length ∧ v = .int .i64 (i : Int) ∧ Aside0 (Only w wq g) ∧ Aside0 (RunsAt wq base g (putV l (ls.take i))))
  case atStart => exact ⟨0, by omega, rfl, HO1, HR1⟩
  case round =>
    clear HO1 HR1
    obtain ⟨i, hi, rfl, HO, HR⟩ := hrel
    have HTi := Aside0.mk (putV_spec (ls.take i) l HT.out).1
    by_cases hlt : i < ls.length
    · obtain ⟨ad, e1, x0, x1⟩ := at_T31 (C_only HC.out HO.out Hne.out) (i : Int) (by omega) (by omega)
      subst e1
      rw [Int.toNat_natCast, rd_get ls i hlt] at x0 x1
      have hlt' : (i : Int) < (ls.length : Int) := by omega
      have hone : Aside0 (putV l (ls.take (i + 1)) = putOneV (putV l (ls.take i)) ls[i]) := ⟨foldl_snoc putOneV l ls i hlt⟩
      generalize ls[i] = X at *
      obtain ⟨F, M⟩ := X
      simp only at x0 x1
      have Hv := Aside0.mk (valid_eq F M 64 (by decide))
      obtain ⟨kk, rfl⟩ : ∃ z, gk = z + 1 := ⟨gk - 1, by omega⟩
      by_cases hw : wh F M
      · have Hv2 : Aside0 (span_Valid.f F M 64 = some true) := ⟨by rw [Hv.out, decide_eq_true ⟨hw, hw.2.2⟩]⟩
        have hone2 : Aside0 (putV l (ls.take (i + 1)) = addV (putV l (ls.take i)) ⟨F, M⟩) := ⟨by rw [hone.out]; unfold putOneV; rw [if_pos hw]⟩
        have Hw := Aside0.mk hw
        clear hw hone Hv
        go_wp2_with fail
        refine (span_Valid.calls F M 64 true _ Hv2.out).mono ?_
        rintro e w2 ⟨rfl, hB⟩
        have HX2 : Aside0 (Blk w2 wr.heap.size 31 #[.int .i64 F, .int .i64 M]) := ⟨(Blk.new wr _ _).keep hB⟩
        have HO2 : Aside0 (Only w w2 g) := ⟨only_below (only_alloc HO.out _) hB⟩
        have HR2 : Aside0 (RunsAt w2 base g (putV l (ls.take i))) := ⟨(HR.out.keep (below_alloc (Below.refl _ _) _)).keep hB⟩
        have c1 := HX2.out.cell (i := 0) rfl
        have c2 := HX2.out.cell (i := 1) rfl
        clear hB x0 x1
        go_wp2_with fail
        refine (runs_add base g _ F M _ HR2.out HTi.out Hw.out (by have := HO2.out.size; have := Hbase.out; omega)).mono ?_
        rintro e w3 ⟨rfl, hr, ho⟩
        have HO3 : Aside0 (Only w w3 g) := ⟨only_trans HO2.out ho⟩
        have HR3 := Aside0.mk hr
        clear hr ho c1 c2
        go_wp2_with fail
        go_roundg kk
        case measure => omega
        case rel => exact ⟨i + 1, by omega, by go_num, HO3, by rw [hone2.out]; exact HR3⟩
      · have Hv2 : Aside0 (span_Valid.f F M 64 = some false) := ⟨by rw [Hv.out, decide_eq_false (fun h => hw h.1)]⟩
        have hone2 : Aside0 (putV l (ls.take (i + 1)) = putV l (ls.take i)) := ⟨by rw [hone.out]; unfold putOneV; rw [if_neg hw]⟩
        clear hw hone Hv
        go_wp2_with fail
        refine (span_Valid.calls F M 64 false _ Hv2.out).mono ?_
        rintro e w2 ⟨rfl, hB⟩
        have HO2 : Aside0 (Only w w2 g) := ⟨only_below (only_alloc HO.out _) hB⟩
        have HR2 : Aside0 (RunsAt w2 base g (putV l (ls.take i))) := ⟨(HR.out.keep (below_alloc (Below.refl _ _) _)).keep hB⟩
        clear hB x0 x1
        go_wp2_with fail
        go_roundg kk
        case measure => omega
        case rel => exact ⟨i + 1, by omega, by go_num, HO2, by rw [hone2.out]; exact HR2⟩
    · have hlt' : ¬ (i : Int) < (ls.length : Int) := by omega
      obtain rfl : i = ls.length := by omega
      rw [List.take_length] at HR HTi
      go_wp2_with fail
      refine (runs_count base g _ _ HTi.out HR.out).mono ?_
      rintro e w2 ⟨rfl, hB⟩
      obtain ⟨t0, t1⟩ := HTi.out.sum (by decide)
      have HR2 := Aside0.mk (HR.out.keep hB)
      have HO2 : Aside0 (Only w w2 g) := ⟨only_below HO.out hB⟩
      clear hB
      generalize hy : sumN (putV l ls) = y at *
      go_wp2_with fail
      go_ret
      exact ⟨by rw [hz, hy]; rfl, HR2.out, HO2.out⟩
set_option maxRecDepth 100000 in
theorem runs_of (ls : List S31) (A : Option Addr) (c : Nat) (w : World) (hC : Kd.C k31 w A ls.length ls) :
    Calls Try.prog 54 #[.slice A ls.length c] w fun e w' => e = .returned (ptrR w.heap.size) ∧ RunsAt w' w.heap.size w.heap.size (putV [] ls) ∧ Below w.heap.size w w' := by
  have HC := Aside0.mk hC
  have Hne := Aside0.mk (off_lt hC (Nat.le_refl _))
  clear hC
  go_enter Try.func54, Try.ntmps54
  go_wp2_with fail
  refine (runs_put w.heap.size w.heap.size [] ls A c _ trivial ⟨_, Blk.new _ _ _, own_alloc (ORow.nil _ _) _⟩ (by simp) (Kd.C_below HC.out (below_alloc (Below.refl _ _) _)) Hne.out).mono ?_
  rintro e w1 ⟨rfl, hr, ho⟩
  have HR := Aside0.mk hr
  have HB : Aside0 (Below w.heap.size w w1) := ⟨below_only (below_alloc (Below.refl _ _) _) ho (Nat.le_refl _)⟩
  clear hr ho
  go_wp2_with fail
  go_ret
  exact ⟨rfl, HR.out, HB.out⟩
end Go.Proofs.Ytffemlfdhkndiaa.Hand
end
section
namespace Go.Proofs.Ytffemlfdhkndiaa.Hand
open Go.RowKit Go.Proofs.YtffemlfdhkndiaaW.PrintWords Go.Proofs.YtffemlfdhkndiaaW.PrintLast Go.Proofs.YtffemlfdhkndiaaW.PrintMore Go.Proofs.Ytffemlfdhkndiaa.A
set_option linter.unusedVariables false
set_option linter.unusedSimpArgs false
/-- No block of a row is free. -/
def Taken (F : Nat → Prop) (x : Value) : Prop := ∀ k, x.ownBlock = some k → ¬ F k
/-- A book: its lists of ints, spans, extents. -/
def KeptAt (w : World) (base g : Nat) (F : Nat → Prop) (LI : List (List Int)) (LS : List (List S31)) (LE : List (List S135)) : Prop :=
  ∃ VI UI VS US VE UE vi ui vs us ve ue, Blk w g 52 (bookC VI UI VS US VE UE) ∧ base ≤ g ∧ Pile (Kd.int .i64) 3 118 w base VI UI vi ui LI ∧ Pile k31 31 22 w base VS US vs us LS ∧ Pile k135 135 120 w base VE UE ve ue LE ∧ (∀ x ∈ vi ++ ui, Taken F x) ∧ (∀ x ∈ vs ++ us, Taken F x) ∧ (∀ x ∈ ve ++ ue, Taken F x)
section
variable {w w1 : World} {base g : Nat} {F F' : Nat → Prop} {LI : List (List Int)} {LS : List (List S31)} {LE : List (List S135)}
theorem Taken.mono {x : Value} (h : Taken F x) (hF : ∀ k, F' k → F k) : Taken F' x := fun k hk hf => h k hk (hF k hf)
theorem KeptAt.mono (h : KeptAt w base g F LI LS LE) (hF : ∀ k, F' k → F k) : KeptAt w base g F' LI LS LE := by
  obtain ⟨VI, UI, VS, US, VE, UE, vi, ui, vs, us, ve, ue, hb, hg, h1, h2, h3, f1, f2, f3⟩ := h
  exact ⟨VI, UI, VS, US, VE, UE, vi, ui, vs, us, ve, ue, hb, hg, h1, h2, h3, fun x hx => (f1 x hx).mono hF, fun x hx => (f2 x hx).mono hF, fun x hx => (f3 x hx).mono hF⟩
theorem KeptAt.below (h : KeptAt w base g F LI LS LE) (hB : Below w.heap.size w w1) : KeptAt w1 base g F LI LS LE := by
  obtain ⟨VI, UI, VS, US, VE, UE, vi, ui, vs, us, ve, ue, hb, hg, h1, h2, h3, f⟩ := h
  exact ⟨VI, UI, VS, US, VE, UE, vi, ui, vs, us, ve, ue, hb.keep hB, hg, h1.below hB, h2.below hB, h3.below hB, f⟩
theorem KeptAt.keep (h : KeptAt w base g F LI LS LE) (hB : Below w.heap.size w w1) : KeptAt w1 base g F LI LS LE := h.below hB
theorem KeptAt.book (h : KeptAt w base g F LI LS LE) : ∃ cs, Blk w g 52 cs := by
  obtain ⟨VI, UI, VS, US, VE, UE, vi, ui, vs, us, ve, ue, hb, _⟩ := h
  exact ⟨_, hb⟩
theorem KeptAt.lt (h : KeptAt w base g F LI LS LE) : g < w.heap.size := by
  obtain ⟨cs, hb⟩ := h.book
  exact hb.lt
theorem KeptAt.ge (h : KeptAt w base g F LI LS LE) : base ≤ g := by
  obtain ⟨VI, UI, VS, US, VE, UE, vi, ui, vs, us, ve, ue, hb, hg, _⟩ := h
  exact hg
theorem pile_lt {α : Type} {d : Kd α} {e eL : Nat} {V U : Value} {vs us : List Value} {L : List (List α)} (h : Pile d e eL w base V U vs us L) : ∀ x ∈ vs ++ us, ∀ k, x.ownBlock = some k → base ≤ k ∧ k < w.heap.size := by
  intro x hx k hk
  rcases List.mem_append.1 hx with hx | hx
  · exact h.rv.lt hx hk
  · exact h.ru.lt hx hk
theorem KeptAt.top (h : KeptAt w base g F LI LS LE) : KeptAt w base g (fun k => w.heap.size ≤ k) LI LS LE := by
  obtain ⟨VI, UI, VS, US, VE, UE, vi, ui, vs, us, ve, ue, hb, hg, h1, h2, h3, f1, f2, f3⟩ := h
  exact ⟨VI, UI, VS, US, VE, UE, vi, ui, vs, us, ve, ue, hb, hg, h1, h2, h3, fun x hx k hk hf => by have := (pile_lt h1 x hx k hk).2; omega, fun x hx k hk hf => by have := (pile_lt h2 x hx k hk).2; omega, fun x hx k hk hf => by have := (pile_lt h3 x hx k hk).2; omega⟩
/-- Blocks of other types have turned. -/
theorem KeptAt.types (h : KeptAt w base g F LI LS LE) (hm : ∀ k cs t, (t = 3 ∨ t = 118 ∨ t = 31 ∨ t = 22 ∨ t = 135 ∨ t = 120 ∨ t = 52) → base ≤ k → Blk w k t cs → Blk w1 k t cs) : KeptAt w1 base g F LI LS LE := by
  obtain ⟨VI, UI, VS, US, VE, UE, vi, ui, vs, us, ve, ue, hb, hg, h1, h2, h3, f⟩ := h
  refine ⟨VI, UI, VS, US, VE, UE, vi, ui, vs, us, ve, ue, hm _ _ _ (by simp) hg hb, hg, h1.keepT rfl (fun k cs t hk ht hbk => ?_), h2.keepT rfl (fun k cs t hk ht hbk => ?_), h3.keepT rfl (fun k cs t hk ht hbk => ?_), f⟩
  · exact (hm k cs t (by rcases ht with rfl | rfl <;> simp) hbk hk).trans hk.symm
  · exact (hm k cs t (by rcases ht with rfl | rfl <;> simp) hbk hk).trans hk.symm
  · exact (hm k cs t (by rcases ht with rfl | rfl <;> simp) hbk hk).trans hk.symm
theorem KeptAt.only {g' t : Nat} {cs : Array Value} (h : KeptAt w base g F LI LS LE) (ho : Only w w1 g') (hb : Blk w g' t cs) (ht : t ≠ 3 ∧ t ≠ 118 ∧ t ≠ 31 ∧ t ≠ 22 ∧ t ≠ 135 ∧ t ≠ 120 ∧ t ≠ 52) : KeptAt w1 base g F LI LS LE := by
  refine h.types (fun k cs' t' ht' _ hk => hk.only ho (fun e => ?_))
  subst e
  have hq := hb.hd.symm.trans hk.hd
  injection hq with hq; injection hq with _ hq
  subst hq
  rcases ht' with h | h | h | h | h | h | h
  · exact ht.1 h
  · exact ht.2.1 h
  · exact ht.2.2.1 h
  · exact ht.2.2.2.1 h
  · exact ht.2.2.2.2.1 h
  · exact ht.2.2.2.2.2.1 h
  · exact ht.2.2.2.2.2.2 h
theorem KeptAt.onlyR {g' base' : Nat} {l' : List S31} (h : KeptAt w base g F LI LS LE) (ho : Only w w1 g') (hb : RunsAt w base' g' l') : KeptAt w1 base g F LI LS LE := by
  obtain ⟨v, hb, _⟩ := hb
  exact h.only ho hb (by decide)
theorem Blk.onlyR {k t' g' base' : Nat} {cs' : Array Value} {l' : List S31} (h : Blk w k t' cs') (ho : Only w w1 g') (hb : RunsAt w base' g' l') (ht : t' ≠ 90) : Blk w1 k t' cs' := by
  obtain ⟨v, hb, _⟩ := hb
  refine h.only ho (fun e => ?_)
  subst e
  have hq := hb.hd.symm.trans h.hd
  injection hq with hq; injection hq with _ hq
  exact ht hq.symm
theorem Blk.neT {k t' g' t : Nat} {cs cs' : Array Value} (h : Blk w k t' cs') (hb : Blk w g' t cs) (ht : t' ≠ t) : k ≠ g' := fun e => by
  subst e
  have hq := hb.hd.symm.trans h.hd
  injection hq with hq; injection hq with _ hq
  exact ht hq.symm
theorem Blk.onlyT {k t' g' t : Nat} {cs cs' : Array Value} (h : Blk w k t' cs') (ho : Only w w1 g') (hb : Blk w g' t cs) (ht : t' ≠ t) : Blk w1 k t' cs' := h.only ho (h.neT hb ht)
theorem R_onlyT {α : Type} {d : Kd α} {e B g' t : Nat} {v : Value} {l : List α} {cs : Array Value} (hE : d.E = []) (hv : Kd.R d e w B (fun _ => True) v l) (ho : Only w w1 g') (hb : Blk w g' t cs) (ht : e ≠ t) : Kd.R d e w1 B (fun _ => True) v l :=
  R_moved hE hv (fun k hk => by
    obtain ⟨cs', hc⟩ := Kd.R_typed hv k hk
    exact ((show Blk w k e cs' from hc).onlyT ho hb ht).trans hc.symm)
theorem RunsAt.onlyT {g' t B gr : Nat} {cs : Array Value} {l : List S31} (h : RunsAt w B gr l) (ho : Only w w1 g') (hb : Blk w g' t cs) (h1 : 90 ≠ t) (h2 : 31 ≠ t) : RunsAt w1 B gr l := by
  obtain ⟨v, hv, hr⟩ := h
  exact ⟨v, hv.onlyT ho hb h1, ORow.of_R (R_onlyT rfl hr.to_R ho hb h2)⟩
theorem KeptAt.new' (w : World) (base n : Nat) (hn : w.heap.size = n) (hb : base ≤ w.heap.size) : KeptAt (w.alloc (.cells (bookC (.slice none 0 0) (.slice none 0 0) (.slice none 0 0) (.slice none 0 0) (.slice none 0 0) (.slice none 0 0)) 52)) base n (fun k => (w.alloc (.cells (bookC (.slice none 0 0) (.slice none 0 0) (.slice none 0 0) (.slice none 0 0) (.slice none 0 0) (.slice none 0 0)) 52)).heap.size ≤ k) [] [] [] := by
  subst hn
  exact KeptAt.top (F := fun _ => True) ⟨_, _, _, _, _, _, [], [], [], [], [], [], Blk.new _ _ _, hb, Pile.nil _ _ _ _ _, Pile.nil _ _ _ _ _, Pile.nil _ _ _ _ _, by simp, by simp, by simp⟩
theorem KeptAt.new (w : World) (base : Nat) (hb : base ≤ w.heap.size) : KeptAt (w.alloc (.cells (bookC (.slice none 0 0) (.slice none 0 0) (.slice none 0 0) (.slice none 0 0) (.slice none 0 0) (.slice none 0 0)) 52)) base w.heap.size (fun _ => True) [] [] [] :=
  ⟨_, _, _, _, _, _, [], [], [], [], [], [], Blk.new _ _ _, hb, Pile.nil _ _ _ _ _, Pile.nil _ _ _ _ _, Pile.nil _ _ _ _ _, by simp, by simp, by simp⟩
/-- What a book's method leaves of the rest. -/
theorem BookFx.blkT {LT k t t' : Nat} {cs cs' : Array Value} (h : BookFx LT g base w w1) (hg : Blk w g t cs) (hb : Blk w k t' cs') (h1 : t' ≠ LT) (h2 : t' ≠ t) : Blk w1 k t' cs' :=
  h.blk hb h1 (fun e => by
    subst e
    have hq := hg.hd.symm.trans hb.hd
    injection hq with hq; injection hq with _ hq
    exact h2 hq.symm)
theorem BookFx.own {LT b e n m t : Nat} {v : Value} {xs : List Value} {cs : Array Value} (h : BookFx LT g base w w1) (hg : Blk w g t cs) (hv : w.ownsRow b e m v n xs) (h1 : e ≠ LT) (h2 : e ≠ t) : w1.ownsRow b e m v n xs :=
  own_move hv (fun k hk => by
    obtain ⟨cs', hc⟩ := own_typed hv k hk
    exact (h.blkT hg (show Blk w k e cs' from hc) h1 h2).trans hc.symm)
theorem BookFx.runs {LT B gr t : Nat} {l : List S31} {cs : Array Value} (h : BookFx LT g base w w1) (hg : Blk w g t cs) (hr : RunsAt w B gr l) (h1 : 90 ≠ LT) (h2 : 90 ≠ t) (h3 : 31 ≠ LT) (h4 : 31 ≠ t) : RunsAt w1 B gr l := by
  obtain ⟨v, hb, ho⟩ := hr
  exact ⟨v, h.blkT hg hb h1 h2, h.own hg ho h3 h4⟩
end
theorem BookFx.Rr {α : Type} {d : Kd α} {e LT g base B t : Nat} {w w1 : World} {v : Value} {l : List α} {cs : Array Value} (hE : d.E = []) (h : BookFx LT g base w w1) (hg : Blk w g t cs) (hv : Kd.R d e w B (fun _ => True) v l) (h1 : e ≠ LT) (h2 : e ≠ t) : Kd.R d e w1 B (fun _ => True) v l :=
  R_moved hE hv (fun k hk => by
    obtain ⟨cs', hc⟩ := Kd.R_typed hv k hk
    exact (h.blkT hg (show Blk w k e cs' from hc) h1 h2).trans hc.symm)
theorem taken_ne {F : Nat → Prop} {x v : Value} (h : Taken F x) (hv : ∀ k, v.ownBlock = some k → F k) : NeRow x v := fun k hk hk' => h k hk (hv k hk')
theorem kept_S (g base : Nat) (F : Nat → Prop) (LI : List (List Int)) (LS : List (List S31)) (LE : List (List S135)) (v : Value) (l : List S31) (w : World) (hk : KeptAt w base g F LI LS LE)
    (hv : Kd.R k31 31 w base (fun _ => True) v l) (hl : l.length ≤ 1000000) (hL : LS.length < 250) (hnv : ∀ k, v.ownBlock = some k → F k) (hbase : base ≤ w.heap.size) :
    Calls Try.prog 27 #[.pointer (some ⟨g, 0, none⟩), v] w fun e w' => e = .returned (.tuple #[]) ∧ KeptAt w' base g (fun k => (F k ∧ k < w.heap.size ∧ v.ownBlock ≠ some k) ∨ w'.heap.size ≤ k) LI (LS ++ [l]) LE ∧ BookFx 22 g base w w' := by
  obtain ⟨VI, UI, VS, US, VE, UE, vi, ui, vs, us, ve, ue, hb, hg, h1, h2, h3, f1, f2, f3⟩ := hk
  refine (add_Spans g base VI UI VE UE VS US vs us LS v l w hb h2 hv hl hL (fun x hx => taken_ne (f2 x hx) hnv) hbase hg).mono ?_
  rintro e w' ⟨rfl, V', U', u, hb', hP', hu, hfx⟩
  have k1 : Pile (Kd.int .i64) 3 118 w' base VI UI vi ui LI := h1.keepT rfl (fun k cs t hk ht hbk => by
    refine hfx.2 k (Array.getElem?_eq_some_iff.1 hk).1 (fun e => ?_) (fun cs' hc => ?_)
    · subst e; rw [hb.hd] at hk; injection hk with hk; injection hk with _ hk; rcases ht with rfl | rfl <;> exact absurd hk (by decide)
    · rw [hk] at hc; injection hc with hc; injection hc with _ hc; rcases ht with rfl | rfl <;> exact absurd hc (by decide))
  have k3 : Pile k135 135 120 w' base VE UE ve ue LE := h3.keepT rfl (fun k cs t hk ht hbk => by
    refine hfx.2 k (Array.getElem?_eq_some_iff.1 hk).1 (fun e => ?_) (fun cs' hc => ?_)
    · subst e; rw [hb.hd] at hk; injection hk with hk; injection hk with _ hk; rcases ht with rfl | rfl <;> exact absurd hk (by decide)
    · rw [hk] at hc; injection hc with hc; injection hc with _ hc; rcases ht with rfl | rfl <;> exact absurd hc (by decide))
  have z : w.heap.size ≤ w'.heap.size := hfx.1.size
  refine ⟨rfl, ⟨VI, UI, V', U', VE, UE, vi, ui, vs ++ [v], us ++ [u], ve, ue, hb', hg, k1, hP', k3, fun x hx k hk hf => ?_, fun x hx k hk hf => ?_, fun x hx k hk hf => ?_⟩, hfx⟩
  · rcases hf with hf | hf
    · exact f1 x hx k hk hf.1
    · have := (pile_lt k1 x hx k hk).2; omega
  · rcases hf with hf | hf
    · have hx' : x ∈ vs ++ us ∨ x = v ∨ x = u := by
        simp only [List.mem_append, List.mem_singleton] at hx ⊢
        rcases hx with (h | h) | (h | h)
        · exact .inl (.inl h)
        · exact .inr (.inl h)
        · exact .inl (.inr h)
        · exact .inr (.inr h)
      rcases hx' with hx' | rfl | rfl
      · exact f2 x hx' k hk hf.1
      · exact hf.2.2 hk
      · have := hu k hk; omega
    · have := (pile_lt hP' x hx k hk).2; omega
  · rcases hf with hf | hf
    · exact f3 x hx k hk hf.1
    · have := (pile_lt k3 x hx k hk).2; omega
theorem kept_apart (g base : Nat) (F : Nat → Prop) (LI : List (List Int)) (LS : List (List S31)) (LE : List (List S135)) (w : World) (hk : KeptAt w base g F LI LS LE)
    (bI : LI.length ≤ 250 ∧ ∀ l ∈ LI, l.length ≤ 1000000) (bS : LS.length ≤ 250 ∧ ∀ l ∈ LS, l.length ≤ 1000000) (bE : LE.length ≤ 250 ∧ ∀ l ∈ LE, l.length ≤ 1000000) (hbase : base ≤ w.heap.size) :
    Calls Try.prog 33 #[.pointer (some ⟨g, 0, none⟩)] w fun e w' => e = .returned (.bool true) ∧ Below base w w' := by
  obtain ⟨VI, UI, VS, US, VE, UE, vi, ui, vs, us, ve, ue, hb, hg, h1, h2, h3, f1, f2, f3⟩ := hk
  exact apart g base VI UI VS US VE UE vi ui vs us ve ue LI LS LE w hb h1 h2 h3 ⟨bI.1, fun i l hl => bI.2 l (List.mem_of_getElem? hl)⟩ ⟨bS.1, fun i l hl => bS.2 l (List.mem_of_getElem? hl)⟩ ⟨bE.1, fun i l hl => bE.2 l (List.mem_of_getElem? hl)⟩ hbase
end Go.Proofs.Ytffemlfdhkndiaa.Hand
end
section
namespace Go.Proofs.Ytffemlfdhkndiaa.Hand
open Go.RowKit Go.Proofs.YtffemlfdhkndiaaW.PrintWords Go.Proofs.YtffemlfdhkndiaaW.PrintLast Go.Proofs.YtffemlfdhkndiaaW.PrintMore Go.Proofs.Ytffemlfdhkndiaa.A
set_option linter.unusedVariables false
set_option linter.unusedSimpArgs false
attribute [local go_sem] max2_int min2_int max_two min_two max_three min_three max_four min_four
attribute [local go_sem high] eqA31
/-- How many of the first k. -/
def cntS (s : List Bool) : Nat → Nat
  | 0 => 0
  | k + 1 => cntS s k + (if s.getD k false = true then 1 else 0)
theorem cntS_le (s : List Bool) : ∀ k, cntS s k ≤ k
  | 0 => Nat.le_refl _
  | k + 1 => by have := cntS_le s k; unfold cntS; split <;> omega
set_option maxRecDepth 100000 in
theorem emulsionref1_Set_Count.calls (s : List Bool) (hs : Aside0 (s.length = 64)) (w : World) :
    Calls Try.prog 24 #[.agg (setArr s)] w fun e w' => e = .returned (.int .i64 ((cntS s 64 : Nat) : Int)) ∧ Below w.heap.size w w' := by
  go_enter Try.func24, Try.ntmps24
  go_wp2_with fail
  have HB0 : Aside0 (Below w.heap.size w (w.alloc (.cells (setArr s) 27))) := ⟨below_alloc (Below.refl _ _) _⟩
  have HX0 : Aside0 (Blk (w.alloc (.cells (setArr s) 27)) w.heap.size 27 (setArr s)) := ⟨Blk.new _ _ _⟩
  go_loopg [3, 4] 64 (fun kq u v wq => ∃ k : Nat, k + kq = 64 ∧ u = .int .i64 ((cntS s k : Nat) : Int) ∧ v = .int .i64 (k : Int) ∧ Aside0 (Below w.heap.size w wq) ∧ Aside0 (Blk wq w.heap.size 27 (setArr s)))
  case atStart => exact ⟨0, by omega, rfl, rfl, HB0, HX0⟩
  case round =>
    clear HB0 HX0
    obtain ⟨k, hk, rfl, rfl, HB, HX⟩ := hrel
    by_cases hlt : k < 64
    · have hlt' : (k : Int) < 64 := by omega
      have hk0 : (0 : Int) ≤ (k : Int) := by omega
      have hcl := cntS_le s k
      have hn1 : ((cntS s k : Nat) : Int) ≤ 64 := by omega
      have hn0 : (0 : Int) ≤ ((cntS s k : Nat) : Int) := by omega
      obtain ⟨kk, rfl⟩ : ∃ z, gk = z + 1 := ⟨gk - 1, by omega⟩
      have C0 := HX.out.cell (setArr_get s k (by have := hs.out; omega))
      have Hn : Aside0 (cntS s (k + 1) = cntS s k + (if s.getD k false = true then 1 else 0)) := ⟨rfl⟩
      generalize s.getD k false = bb at *
      generalize cntS s k = m at *
      cases bb
      · go_wp2_with fail
        go_roundg kk
        case measure => omega
        case rel => exact ⟨k + 1, by omega, by rw [Hn.out]; rfl, by go_num, HB, HX⟩
      · go_wp2_with fail
        go_roundg kk
        case measure => omega
        case rel => exact ⟨k + 1, by omega, by rw [Hn.out]; go_num, by go_num, HB, HX⟩
    · have hlt' : ¬ (k : Int) < 64 := by omega
      have hk64 : k = 64 := by omega
      subst hk64
      go_wp2_with fail
      go_ret
      exact ⟨rfl, HB.out⟩
/-- How many of the first so many. -/
def cntB (f : Nat → Bool) : Nat → Nat
  | 0 => 0
  | n + 1 => cntB f n + (if f n = true then 1 else 0)
theorem cntB_congr {f g : Nat → Bool} : ∀ n, (∀ k, k < n → f k = g k) → cntB f n = cntB g n
  | 0, _ => rfl
  | n + 1, h => by unfold cntB; rw [cntB_congr n (fun k hk => h k (by omega)), h n (by omega)]
theorem cntS_cntB (s : List Bool) : ∀ n, cntS s n = cntB (fun k => s.getD k false) n
  | 0 => rfl
  | n + 1 => by unfold cntS cntB; rw [cntS_cntB s n]
theorem ORow.lit (w : World) (base : Nat) (hb : base ≤ w.heap.size) (l : List S31) (hl : l.length ≤ 1000000) (cs : Array Value) (hcs : cs.toList = flat l) : ORow (w.alloc (.cells cs 31)) base (.slice (some ⟨w.heap.size, 0, none⟩) l.length l.length) l := by
  have h := World.ownsRow_lit (base := base) (e := 31) (size := 2) w cs l.length hb (by unfold maxLen; omega) (by rw [← Array.length_toList, hcs, flat_length])
  rw [hcs] at h
  exact h
theorem C_lit (w : World) (l : List S31) (hl : l.length ≤ 1000000) (cs : Array Value) (hcs : cs.toList = flat l) : Kd.C k31 (w.alloc (.cells cs 31)) (some ⟨w.heap.size, 0, none⟩) l.length l := by
  obtain ⟨A, c, he, _, hC, _⟩ := (ORow.lit w 0 (Nat.zero_le _) l hl cs hcs).reads
  injection he with he _ _
  rw [he]; exact hC
end Go.Proofs.Ytffemlfdhkndiaa.Hand
end
section
namespace Go.Proofs.Ytffemlfdhkndiaa.Hand
open Go.RowKit Go.Proofs.YtffemlfdhkndiaaW.PrintWords Go.Proofs.YtffemlfdhkndiaaW.PrintLast Go.Proofs.YtffemlfdhkndiaaW.PrintMore Go.Proofs.Ytffemlfdhkndiaa.A
set_option linter.unusedVariables false
set_option linter.unusedSimpArgs false
theorem wmem_cons (y : S31) (a : List S31) (k : Int) : wmem (y :: a) k ↔ (wh y.f0 y.f1 ∧ inSp y k) ∨ wmem a k := by
  unfold wmem
  constructor
  · rintro ⟨s, hs, h⟩
    rcases List.mem_cons.1 hs with rfl | hs
    · exact .inl h
    · exact .inr ⟨s, hs, h⟩
  · rintro (h | ⟨s, hs, h⟩)
    · exact ⟨y, List.mem_cons_self, h⟩
    · exact ⟨s, List.mem_cons_of_mem _ hs, h⟩
theorem putS_on (k : Nat) : ∀ (a : List S31) (s : List Bool), s.length = 64 → ((putS s a true).getD k false = true ↔ s.getD k false = true ∨ wmem a (k : Int))
  | [], s, _ => by
    show s.getD k false = true ↔ _
    unfold wmem; simp
  | y :: a, s, hs => by
    have ih := putS_on k a (putOne s y true) ((putOne_length s y true).trans hs)
    show (putS (putOne s y true) a true).getD k false = true ↔ _
    rw [ih, putOne_get _ _ _ _ hs, wmem_cons]
    unfold inSp
    by_cases h : wh y.f0 y.f1 ∧ y.f0 ≤ (k : Int) ∧ (k : Int) < y.f0 + y.f1
    · rw [if_pos h]; exact ⟨fun _ => .inr (.inl h), fun _ => .inl rfl⟩
    · rw [if_neg h]
      have h' : ¬ (wh y.f0 y.f1 ∧ y.f0 ≤ (k : Int) ∧ (k : Int) < y.f0 + y.f1) := h
      constructor
      · rintro (q | q)
        · exact .inl q
        · exact .inr (.inr q)
      · rintro (q | q | q)
        · exact .inl q
        · exact absurd q h'
        · exact .inr q
theorem putS_len (s : List Bool) (a : List S31) (on : Bool) (hs : s.length = 64) : (putS s a on).length = 64 := (putS_length a on s).trans hs
theorem spans_mem (s : List Bool) (k : Nat) (hk : k < 64) : mem (spansOf s) (k : Int) ↔ s.getD k false = true := by
  rw [spansOf_mem, Int.toNat_natCast]
  exact ⟨fun h => h.2.2, fun h => ⟨by omega, by omega, h⟩⟩
theorem spans_put (s : List Bool) (a : List S31) (hs : s.length = 64) : putV (spansOf s) a = spansOf (putS s a true) := by
  obtain ⟨h1, h2⟩ := putV_spec a (spansOf s) (spansOf_tidy s)
  refine tidy_eq h1 (fun k hk => ?_)
  rw [h2, spans_mem s k hk, putS_on k a s hs]
theorem bools_ext {s t : List Bool} (hs : s.length = 64) (ht : t.length = 64) (h : ∀ k, k < 64 → (s.getD k false = true ↔ t.getD k false = true)) : s = t := by
  apply List.ext_getElem (by omega)
  intro k h1 h2
  have a := h k (by omega)
  rw [List.getD_eq_getElem?_getD, List.getD_eq_getElem?_getD, List.getElem?_eq_getElem h1, List.getElem?_eq_getElem h2] at a
  revert a
  show (s[k] = true ↔ t[k] = true) → _
  cases s[k] <;> cases t[k] <;> simp
theorem spans_len (s : List Bool) : (spansOf s).length ≤ 65 := by have := (spansOf_tidy s).length (by decide); omega
theorem runs_count0 (base g : Nat) (w : World) (h : RunsAt w base g []) :
    Calls Try.prog 32 #[ptrR g] w fun e w' => e = .returned (.int .i64 0) ∧ Below w.heap.size w w' := runs_count base g [] w trivial h
theorem set_cnt (s : List Bool) (n : Nat) (hs : s.length = 64) (hn : cntS s 64 = n) (w : World) :
    Calls Try.prog 24 #[.agg (setArr s)] w fun e w' => e = .returned (.int .i64 (n : Int)) ∧ Below w.heap.size w w' := by
  refine (emulsionref1_Set_Count.calls s ⟨hs⟩ w).mono ?_
  rintro e w' ⟨rfl, hB⟩
  exact ⟨by rw [hn], hB⟩
/-- The first so many places as told, the others as they were. -/
def upS (f : Nat → Bool) (b : List Bool) (k : Nat) : List Bool := (List.range 64).map fun j => if j < k then f j else b.getD j false
theorem upS_length (f : Nat → Bool) (b : List Bool) (k : Nat) : (upS f b k).length = 64 := by unfold upS; simp
theorem upS_get (f : Nat → Bool) (b : List Bool) (k j : Nat) (hj : j < 64) : (upS f b k).getD j false = if j < k then f j else b.getD j false := by
  unfold upS
  rw [List.getD_eq_getElem?_getD, List.getElem?_map, List.getElem?_range hj]; rfl
theorem upS_zero (f : Nat → Bool) (b : List Bool) (hb : b.length = 64) : upS f b 0 = b := by
  apply List.ext_getElem?
  intro j
  by_cases hj : j < 64
  · unfold upS
    rw [List.getElem?_map, List.getElem?_range hj, List.getElem?_eq_getElem (by omega)]
    simp [List.getD_eq_getElem?_getD, List.getElem?_eq_getElem (show j < b.length by omega)]
  · rw [List.getElem?_eq_none (by rw [upS_length]; omega), List.getElem?_eq_none (by omega)]
theorem upS_step (f : Nat → Bool) (b : List Bool) (k : Nat) (hk : k < 64) : (upS f b k).set k (f k) = upS f b (k + 1) := by
  apply List.ext_getElem?
  intro j
  rw [List.getElem?_set]
  by_cases hj : j < 64
  · unfold upS
    rw [List.getElem?_map, List.getElem?_map, List.getElem?_range hj]
    by_cases e : k = j
    · subst e
      simp [hk]
    · rw [if_neg e]
      by_cases h : j < k
      · simp [h, show j < k + 1 by omega]
      · simp [h, show ¬ j < k + 1 by omega]
  · rw [if_neg (by omega), List.getElem?_eq_none (by rw [upS_length]; omega), List.getElem?_eq_none (by rw [upS_length]; omega)]
end Go.Proofs.Ytffemlfdhkndiaa.Hand
end
section
namespace Go.Proofs.Ytffemlfdhkndiaa.Hand
open Go.RowKit Go.Proofs.YtffemlfdhkndiaaW.PrintWords Go.Proofs.YtffemlfdhkndiaaW.PrintLast Go.Proofs.YtffemlfdhkndiaaW.PrintMore Go.Proofs.Ytffemlfdhkndiaa.A
set_option linter.unusedVariables false
set_option linter.unusedSimpArgs false
theorem runs_put_one (base g : Nat) (s : List Bool) (a : Addr) (c : Nat) (F M : Int) (w : World) (hs : s.length = 64) (h : RunsAt w base g (spansOf s)) (hbase : base ≤ w.heap.size) (hC : Kd.C k31 w (some a) 1 [⟨F, M⟩]) (hne : a.block ≠ g) :
    Calls Try.prog 31 #[ptrR g, .slice (some a) 1 c] w fun e w' => ∃ z : Int, e = .returned (.int .i64 z) ∧ RunsAt w' base g (spansOf (putS s [⟨F, M⟩] true)) ∧ Only w w' g := by
  refine (runs_put base g _ [⟨F, M⟩] (some a) c w (spansOf_tidy s) h hbase hC (fun _ b hb => by injection hb with hb; subst hb; exact hne)).mono ?_
  rintro e w' ⟨rfl, hr, ho⟩
  rw [spans_put s _ hs] at hr
  exact ⟨_, rfl, hr, ho⟩
end Go.Proofs.Ytffemlfdhkndiaa.Hand
end
section
namespace Go.Proofs.Ytffemlfdhkndiaa.Hand
open Go.RowKit Go.Proofs.YtffemlfdhkndiaaW.PrintWords Go.Proofs.YtffemlfdhkndiaaW.PrintLast Go.Proofs.YtffemlfdhkndiaaW.PrintMore Go.Proofs.Ytffemlfdhkndiaa.A Go.Proofs.Ytffemlfdhkndiaa.Bits
set_option linter.unusedVariables false
set_option linter.unusedSimpArgs false
attribute [local go_sem] max2_int min2_int max_two min_two max_three min_three max_four min_four
theorem C_noneR (w : World) : Kd.C k31 w none 0 [] := ⟨rfl, by decide, fun h => by omega⟩
/-- The first marks, as a set. -/
def bitsS (n x : Nat) : List Bool := (List.range 64).map fun k => decide (k < n) && x.testBit k
theorem bitsS_length (n x : Nat) : (bitsS n x).length = 64 := by unfold bitsS; simp
theorem bitsS_get (n x k : Nat) (hk : k < 64) : (bitsS n x).getD k false = (decide (k < n) && x.testBit k) := by
  unfold bitsS
  rw [List.getD_eq_getElem?_getD, List.getElem?_map, List.getElem?_range hk]; rfl
theorem bits_mem (n x : Nat) (j : Int) : mem (spansOf (bitsS n x)) j ↔ 0 ≤ j ∧ j < 64 ∧ j < n ∧ x.testBit j.toNat = true := by
  rw [spansOf_mem]
  constructor
  · rintro ⟨a, b, c⟩
    rw [bitsS_get _ _ _ (by omega)] at c
    simp only [Bool.and_eq_true, decide_eq_true_eq] at c
    exact ⟨a, b, by omega, c.2⟩
  · rintro ⟨a, b, c, d⟩
    refine ⟨a, b, ?_⟩
    rw [bitsS_get _ _ _ (by omega), d]
    simp; omega
theorem bits_zero (x : Nat) : spansOf (bitsS 0 x) = [] := by
  refine (spansOf_tidy _).ext (lo' := 0) trivial (fun j => ?_)
  rw [bits_mem]
  have := mem_nil j
  simp only [this, iff_false]
  omega
theorem bits_step (i x : Nat) (hi : i < 64) : spansOf (bitsS (i + 1) x) = if x.testBit i then putV (spansOf (bitsS i x)) [⟨(i : Int), 1⟩] else spansOf (bitsS i x) := by
  by_cases h : x.testBit i = true
  · rw [if_pos h]
    obtain ⟨a, b⟩ := putV_spec [⟨(i : Int), 1⟩] _ (spansOf_tidy (bitsS i x))
    refine (spansOf_tidy _).ext a (fun j => ?_)
    rw [b, bits_mem, bits_mem]
    unfold wmem inSp wh
    simp only [List.mem_singleton, exists_eq_left]
    constructor
    · rintro ⟨h1, h2, h3, h4⟩
      by_cases hj : j = i
      · exact .inr ⟨by omega, by omega⟩
      · exact .inl ⟨h1, h2, by omega, h4⟩
    · rintro (⟨h1, h2, h3, h4⟩ | ⟨h1, h2⟩)
      · exact ⟨h1, h2, by omega, h4⟩
      · obtain rfl : j = i := by omega
        exact ⟨by omega, by omega, by omega, by simpa using h⟩
  · rw [if_neg h]
    refine (spansOf_tidy _).ext (spansOf_tidy _) (fun j => ?_)
    rw [bits_mem, bits_mem]
    constructor
    · rintro ⟨h1, h2, h3, h4⟩
      refine ⟨h1, h2, ?_, h4⟩
      by_cases hj : j = i
      · subst hj; simp at h4; simp [h4] at h
      · omega
    · rintro ⟨h1, h2, h3, h4⟩
      exact ⟨h1, h2, by omega, h4⟩
set_option maxRecDepth 100000 in
set_option maxHeartbeats 800000 in
theorem dirt_runs (g n x : Nat) (hn : n ≤ 64) (hx : x < 18446744073709551616) (w : World) (hd : DirtAt w g n x) :
    Calls Try.prog 25 #[ptr g] w fun e w' => e = .returned (ptrR w.heap.size) ∧ RunsAt w' w.heap.size w.heap.size (spansOf (bitsS n x)) ∧ Below w.heap.size w w' := by
  have HD := Aside0.mk hd
  clear hd
  go_enter Try.func25, Try.ntmps25
  go_wp2_with fail
  refine (runs_of [] none 0 _ (C_noneR _)).mono ?_
  rintro e w1 ⟨rfl, hr, hB⟩
  have HB1 := Aside0.mk hB
  have HR1 : Aside0 (RunsAt w1 w.heap.size w.heap.size []) := ⟨hr⟩
  clear hr hB
  go_wp2_with fail
  refine (dirt_blocks g n x _ (HD.out.keep HB1.out)).mono ?_
  rintro e w2 ⟨rfl, hB⟩
  have HB2 := Aside0.mk (below_step HB1.out hB)
  have HR2 := Aside0.mk (HR1.out.keep hB)
  clear hB HB1 HR1
  go_wp2_with fail
  go_loopg [8] n (fun kq v wq => ∃ i : Nat, i + kq = n ∧ v = .int .i64 (i : Int) ∧ Aside0 (Below w.heap.size w wq) ∧ Aside0 (RunsAt wq w.heap.size w.heap.size (spansOf (bitsS i x))))
  case atStart => exact ⟨0, by omega, rfl, HB2, by rw [bits_zero]; exact HR2⟩
  case round =>
    clear HB2 HR2
    obtain ⟨i, hi, rfl, HB, HR⟩ := hrel
    by_cases hlt : i < n
    · have hlt' : (i : Int) < (n : Int) := by omega
      have hi0 : (0 : Int) ≤ (i : Int) := by omega
      have hi1 : (i : Int) ≤ 64 := by omega
      have hs := Aside0.mk (bits_step i x (by omega))
      obtain ⟨kk, rfl⟩ : ∃ z, gk = z + 1 := ⟨gk - 1, by omega⟩
      have hh := Aside0.mk (dirt_has g n x hn hx (i : Int) wr (HD.out.keep HB.out))
      rw [show (decide ((0 : Int) ≤ (i : Int)) && decide ((i : Int) < (n : Int)) && x.testBit ((i : Int)).toNat) = x.testBit i by rw [Int.toNat_natCast, decide_eq_true hi0, decide_eq_true hlt']; rfl] at hh
      cases hb : x.testBit i
      · rw [hb] at hh hs
        clear hb
        go_wp2_with fail
        refine hh.out.mono ?_
        rintro e w3 ⟨rfl, hB⟩
        have HB3 := Aside0.mk (below_step HB.out hB)
        have HR3 := Aside0.mk (HR.out.keep hB)
        clear hB HB HR hh
        go_wp2_with fail
        go_roundg kk
        case measure => omega
        case rel => exact ⟨i + 1, by omega, by go_num, HB3, by rw [hs.out]; exact HR3⟩
      · rw [hb] at hh hs
        clear hb
        go_wp2_with fail
        refine hh.out.mono ?_
        rintro e w3 ⟨rfl, hB⟩
        have HB3 := Aside0.mk (below_step HB.out hB)
        have HR3 := Aside0.mk (HR.out.keep hB)
        clear hB HB HR hh
        go_wp2_with fail
        refine (runs_put w.heap.size w.heap.size _ [⟨(i : Int), 1⟩] (some ⟨w3.heap.size, 0, none⟩) 1 _ (spansOf_tidy (bitsS i x)) (HR3.out.keep (below_alloc (Below.refl _ _) _)) (below_size (below_alloc HB3.out _)) (C_lit w3 [⟨(i : Int), 1⟩] (by simp) #[.int .i64 (i : Int), .int .i64 1] rfl) (fun _ a ha => by injection ha with ha; subst ha; have := HR3.out.lt; simp; omega)).mono ?_
        rintro e w4 ⟨rfl, hr, ho⟩
        have HB4 := Aside0.mk (below_only (below_alloc HB3.out _) ho (Nat.le_refl _))
        have HR4 := Aside0.mk hr
        clear hr ho HB3 HR3
        go_wp2_with fail
        go_roundg kk
        case measure => omega
        case rel => exact ⟨i + 1, by omega, by go_num, HB4, by rw [hs.out]; exact HR4⟩
    · have hlt' : ¬ (i : Int) < (n : Int) := by omega
      obtain rfl : i = n := by omega
      go_wp2_with fail
      go_ret
      exact ⟨rfl, HR.out, HB.out⟩
end Go.Proofs.Ytffemlfdhkndiaa.Hand
end
section
namespace Go.Proofs.Ytffemlfdhkndiaa.Hand
open Go.RowKit Go.Proofs.YtffemlfdhkndiaaW.PrintWords Go.Proofs.YtffemlfdhkndiaaW.PrintLast Go.Proofs.YtffemlfdhkndiaaW.PrintMore Go.Proofs.Ytffemlfdhkndiaa.A Go.Proofs.Ytffemlfdhkndiaa.Bits
set_option linter.unusedVariables false
set_option linter.unusedSimpArgs false
attribute [local go_sem] max2_int min2_int max_two min_two max_three min_three max_four min_four
theorem cntB_succ (f : Nat → Bool) : ∀ n, cntB f (n + 1) = (if f 0 = true then 1 else 0) + cntB (fun k => f (k + 1)) n
  | 0 => by simp [cntB]
  | n + 1 => by
    rw [cntB, cntB_succ f n, cntB]
    omega
theorem sumd_cntB : ∀ n x, sumd 2 n x = cntB (fun k => x.testBit k) n
  | 0, _ => rfl
  | n + 1, x => by
    rw [cntB_succ]
    show x % 2 + sumd 2 n (x / 2) = _
    rw [sumd_cntB n (x / 2)]
    congr 1
    · rw [Nat.testBit_zero]
      rcases Nat.mod_two_eq_zero_or_one x with h | h <;> rw [h] <;> rfl
    · exact cntB_congr n (fun k _ => by rw [Nat.testBit_succ])
/-- No bit from a place on. -/
def Hi (n x : Nat) : Prop := ∀ i, n ≤ i → x.testBit i = false
theorem cnt_bits {n x : Nat} (hn : n ≤ 64) (h : Hi n x) : cntS (bitsS n x) 64 = cnt x := by
  rw [cntS_cntB]
  show _ = sumd 2 64 x
  rw [sumd_cntB]
  refine cntB_congr 64 (fun k hk => ?_)
  rw [bitsS_get n x k hk]
  by_cases hkn : k < n
  · rw [decide_eq_true hkn, Bool.true_and]
  · rw [decide_eq_false hkn, h k (by omega)]; rfl
theorem Hi.zero (n : Nat) : Hi n 0 := fun i _ => Nat.zero_testBit i
theorem Hi.or {n x y : Nat} (hx : Hi n x) (hy : Hi n y) : Hi n (x ||| y) := fun i hi => by rw [Nat.testBit_or, hx i hi, hy i hi]; rfl
theorem Hi.mark (n : Nat) (a m : Int) : Hi n (markV n a m) := fun i hi => by rw [markV_test, decide_eq_false (show ¬ i < n by omega), Bool.and_false]
theorem Hi.and {n y : Nat} : Hi n (y &&& ones 0 n) := fun i hi => by rw [Nat.testBit_and, ones_test, Nat.zero_add, decide_eq_false (show ¬ i < n by omega), Bool.and_false, Bool.and_false]
set_option maxRecDepth 100000 in
theorem dirt_wipe_nil (w : World) : Calls Try.prog 21 #[.pointer none] w fun e w' => e = .returned (.tuple #[]) ∧ Below w.heap.size w w' := by
  go_enter Try.func21, Try.ntmps21
  go_wp2_with fail
  go_end0
  exact ⟨rfl, by repeat (first | exact Below.refl _ _ | apply below_alloc | apply below_drew1)⟩
theorem dirt_mark_nil (a m : Int) (w : World) : Calls Try.prog 16 #[.pointer none, .agg #[.int .i64 a, .int .i64 m]] w fun e w' => e = .returned (.int .i64 0) ∧ Below w.heap.size w w' := by
  go_enter Try.func16, Try.ntmps16
  go_wp2_with fail
  go_ret
  exact ⟨rfl, by repeat (first | exact Below.refl _ _ | apply below_alloc | apply below_drew1)⟩
theorem dirt_count_nil (w : World) : Calls Try.prog 17 #[.pointer none] w fun e w' => e = .returned (.int .i64 0) ∧ Below w.heap.size w w' := by
  go_enter Try.func17, Try.ntmps17
  go_wp2_with fail
  go_ret
  exact ⟨rfl, by repeat (first | exact Below.refl _ _ | apply below_alloc | apply below_drew1)⟩
theorem dirt_blocks_nil (w : World) : Calls Try.prog 22 #[.pointer none] w fun e w' => e = .returned (.int .i64 0) ∧ Below w.heap.size w w' := by
  go_enter Try.func22, Try.ntmps22
  go_wp2_with fail
  go_ret
  exact ⟨rfl, by repeat (first | exact Below.refl _ _ | apply below_alloc | apply below_drew1)⟩
theorem dirt_has_nil (k : Int) (w : World) : Calls Try.prog 20 #[.pointer none, .int .i64 k] w fun e w' => e = .returned (.bool false) ∧ Below w.heap.size w w' := by
  go_enter Try.func20, Try.ntmps20
  go_wp2_with fail
  go_ret
  exact ⟨rfl, by repeat (first | exact Below.refl _ _ | apply below_alloc | apply below_drew1)⟩
theorem dirt_bytes_nil (w : World) : Calls Try.prog 19 #[.pointer none] w fun e w' => e = .returned (.string ByteArray.empty) ∧ Below w.heap.size w w' := by
  go_enter Try.func19, Try.ntmps19
  go_wp2_with fail
  go_ret
  exact ⟨rfl, by repeat (first | exact Below.refl _ _ | apply below_alloc | apply below_drew1)⟩
theorem dirt_or_nil (v : Value) (w : World) : Calls Try.prog 18 #[.pointer none, v] w fun e w' => e = .returned (.int .i64 0) ∧ Below w.heap.size w w' := by
  go_enter Try.func18, Try.ntmps18
  go_wp2_with fail
  go_ret
  exact ⟨rfl, by repeat (first | exact Below.refl _ _ | apply below_alloc | apply below_drew1)⟩
theorem dirt_or_none (g : Nat) (w : World) : Calls Try.prog 18 #[ptr g, .pointer none] w fun e w' => e = .returned (.int .i64 0) ∧ Below w.heap.size w w' := by
  go_enter Try.func18, Try.ntmps18
  go_wp2_with fail
  go_ret
  exact ⟨rfl, by repeat (first | exact Below.refl _ _ | apply below_alloc | apply below_drew1)⟩
set_option maxRecDepth 100000 in
theorem dirt_runs_nil (w : World) :
    Calls Try.prog 25 #[.pointer none] w fun e w' => e = .returned (ptrR w.heap.size) ∧ RunsAt w' w.heap.size w.heap.size [] ∧ Below w.heap.size w w' := by
  go_enter Try.func25, Try.ntmps25
  go_wp2_with fail
  refine (runs_of [] none 0 w (C_noneR w)).mono ?_
  rintro e w1 ⟨rfl, hr, hB⟩
  have HR := Aside0.mk hr
  have HB := Aside0.mk hB
  clear hr hB
  go_wp2_with fail
  refine (dirt_blocks_nil _).mono ?_
  rintro e w2 ⟨rfl, hB⟩
  replace HR := Aside0.mk (HR.out.keep hB)
  replace HB := Aside0.mk (below_step HB.out hB)
  clear hB
  go_wp2_with fail
  go_loopg [8] 0 (fun kq v wq => v = .int .i64 0 ∧ Aside0 (Below w.heap.size w wq) ∧ Aside0 (RunsAt wq w.heap.size w.heap.size []))
  case atStart => exact ⟨rfl, HB, HR⟩
  case round =>
    obtain ⟨rfl, HB1, HR1⟩ := hrel
    go_wp2_with fail
    go_ret
    exact ⟨rfl, HR1.out, HB1.out⟩
end Go.Proofs.Ytffemlfdhkndiaa.Hand
end
section
namespace Go.Proofs.Ytffemlfdhkndiaa.Hand
open Go.RowKit Go.Proofs.YtffemlfdhkndiaaW.PrintWords Go.Proofs.YtffemlfdhkndiaaW.PrintLast Go.Proofs.YtffemlfdhkndiaaW.PrintMore Go.Proofs.Ytffemlfdhkndiaa.A Go.Proofs.Ytffemlfdhkndiaa.Bits
set_option linter.unusedVariables false
set_option linter.unusedSimpArgs false
attribute [local go_sem] max2_int min2_int max_two min_two max_three min_three max_four min_four
theorem mod_bit (y j : Nat) : y % 2 ^ (j + 1) = y % 2 ^ j + (if y.testBit j then 2 ^ j else 0) := by
  rw [Nat.pow_succ, Nat.mod_mul, Nat.testBit_eq_decide_div_mod_eq]
  rcases Nat.mod_two_eq_zero_or_one (y / 2 ^ j) with h | h
  · rw [h]; simp
  · rw [h]; simp
theorem mod_hi {y j : Nat} (h : ∀ i, j ≤ i → y.testBit i = false) (k : Nat) (hk : j ≤ k) : y % 2 ^ k = y % 2 ^ j := by
  obtain ⟨d, rfl⟩ := Nat.exists_eq_add_of_le hk
  clear hk
  induction d with
  | zero => rfl
  | succ d ih => rw [← Nat.add_assoc, mod_bit, h (j + d) (by omega), ih]; simp
theorem shift_bit (x i j : Nat) : (x / 256 ^ i).testBit j = x.testBit (8 * i + j) := by
  have e : (256 : Nat) ^ i = 2 ^ (8 * i) := by rw [Nat.pow_mul]
  rw [e, ← Nat.shiftRight_eq_div_pow, Nat.testBit_shiftRight]
theorem info8u : (Try.prog.info? 5).map (fun i => (i.zero, i.size, i.bytes)) = some (some (.int .u8 0), (Kd.int .u8).sz, 1) := by kernel_rfl
set_option maxRecDepth 100000 in
set_option maxHeartbeats 1600000 in
theorem bytes_ref (n x : Nat) (hn : n ≤ 64) (hx : Hi n x) (s : List Bool) (hs : s = bitsS n x) (w : World) :
    Calls Try.prog 30 #[.agg (setArr s), .int .i64 (n : Int)] w fun e w' => e = .returned (.string (strOfNums (bytesD n x))) ∧ Below w.heap.size w w' := by
  have Hsl : Aside0 (s.length = 64) := ⟨by rw [hs]; exact bitsS_length _ _⟩
  have Hsg : Aside0 (∀ k, k < n → s.getD k false = x.testBit k) := ⟨fun k hk => by rw [hs, bitsS_get n x k (by omega), decide_eq_true hk, Bool.true_and]⟩
  have Hn := Aside0.mk hn
  have Hx := Aside0.mk hx
  have hni : (n : Int) ≤ 64 := by omega
  clear hs hn hx
  go_enter Try.func30, Try.ntmps30
  go_wp2_with fail
  have HB0 : Aside0 (Below w.heap.size w (w.alloc (.cells (setArr s) 27))) := ⟨below_alloc (Below.refl _ _) _⟩
  have HX0 : Aside0 (Blk (w.alloc (.cells (setArr s) 27)) w.heap.size 27 (setArr s)) := ⟨Blk.new _ _ _⟩
  go_loopg [5, 6] ((n + 7) / 8) (fun kq v5 v6 wz => ∃ (i : Nat) (A : Option Addr) (c : Nat) (l : List Int), i + kq = (n + 7) / 8 ∧ v6 = .int .i64 (8 * (i : Int)) ∧ v5 = .slice A l.length c ∧ Aside0 (l = (bytesD n x).take i) ∧ Aside0 (∀ k, Value.ownBlock (.slice A l.length c) = some k → w.heap.size < k) ∧ Aside0 (Below w.heap.size w wz) ∧ Aside0 (Blk wz w.heap.size 27 (setArr s)) ∧ Aside0 (Kd.R (Kd.int .u8) 5 wz w.heap.size (fun _ => True) (.slice A l.length c) l))
  case atStart => exact ⟨0, none, 0, [], by omega, rfl, rfl, ⟨rfl⟩, ⟨fun k hk => by simp [Value.ownBlock] at hk⟩, HB0, HX0, ⟨Kd.R_nil _ _ _ _ _⟩⟩
  case round =>
    clear HB0 HX0
    obtain ⟨i, A, c, l, hi, rfl, rfl, Hl, hfr, HB, HX, HR⟩ := hrel
    have Hi_ := Aside0.mk hi
    have hi9 : (i : Int) ≤ 8 := by have := Hn.out; omega
    have Hll : Aside0 (l.length ≤ 8) := ⟨by rw [Hl.out, List.length_take]; omega⟩
    by_cases hlt : i < (n + 7) / 8
    · have hlt' : 8 * (i : Int) < (n : Int) := by omega
      obtain ⟨kk, rfl⟩ : ∃ z, gk = z + 1 := ⟨gk - 1, by omega⟩
      have Hbyte : Aside0 ((bytesD n x).take i ++ [((x / 256 ^ i % 256 : Nat) : Int)] = (bytesD n x).take (i + 1)) := ⟨by
        rw [List.take_succ_eq_append_getElem (by rw [bytesD_length]; exact hlt)]
        congr 2
        unfold bytesD
        rw [List.getElem_map, List.getElem_range]⟩
      obtain ⟨mx, hmx⟩ : ∃ m, m = min 8 (n - 8 * i) := ⟨_, rfl⟩
      have hmx8 : mx ≤ 8 ∧ 8 * i + mx ≤ n ∧ (mx = 8 ∨ 8 * i + mx = n) := by omega
      have Hend : Aside0 (x / 256 ^ i % 2 ^ mx = x / 256 ^ i % 256) := ⟨by
        rcases hmx8.2.2 with h | h
        · rw [h]
        · exact (mod_hi (fun k hk => by rw [shift_bit]; exact Hx.out _ (by omega)) 8 hmx8.1).symm⟩
      replace hmx := Aside0.mk hmx
      have Hmx := Aside0.mk hmx8
      clear hmx8 hi
      go_wp2_with fail
      go_loopg [7, 8, 9] mx (fun kq v7 v8 v9 wz => ∃ (j : Nat) (vv pw : Int), j + kq = mx ∧ v7 = .int .i64 vv ∧ v8 = .int .i64 pw ∧ v9 = .int .i64 (8 * (i : Int) + (j : Int)) ∧ Aside0 (vv = ((x / 256 ^ i % 2 ^ j : Nat) : Int)) ∧ Aside0 (pw = ((2 ^ j : Nat) : Int)) ∧ Aside0 (Below w.heap.size w wz) ∧ Aside0 (Blk wz w.heap.size 27 (setArr s)) ∧ Aside0 (Kd.R (Kd.int .u8) 5 wz w.heap.size (fun _ => True) (.slice A l.length c) l))
      case atStart => exact ⟨0, 0, 1, by omega, rfl, rfl, by go_num, ⟨by rw [Nat.pow_zero, Nat.mod_one]; rfl⟩, ⟨rfl⟩, HB, HX, HR⟩
      case round =>
        clear HB HX HR
        obtain ⟨j, vv, pw, hj, rfl, rfl, rfl, Hv, Hp, HB, HX, HR⟩ := hrel
        have Hj := Aside0.mk hj
        have hj8 : (j : Int) ≤ 8 := by have := Hmx.out; omega
        have hpb : 1 ≤ pw ∧ pw ≤ 256 := by
          have h1 : 2 ^ j ≤ 2 ^ 8 := Nat.pow_le_pow_right (by decide) (by omega)
          have h2 : 0 < 2 ^ j := Nat.pos_of_ne_zero (by simp)
          have h3 := Hp.out
          rw [h3]
          generalize 2 ^ j = q at *
          omega
        have hvb : Aside0 (0 ≤ vv ∧ vv < pw) := ⟨by
          have h2 : 0 < 2 ^ j := Nat.pos_of_ne_zero (by simp)
          have h4 : x / 256 ^ i % 2 ^ j < 2 ^ j := Nat.mod_lt _ h2
          rw [Hv.out, Hp.out]
          generalize x / 256 ^ i % 2 ^ j = q1 at *
          generalize 2 ^ j = q2 at *
          omega⟩
        have v0 : 0 ≤ vv := hvb.out.1
        have v1 : vv ≤ 256 := by have := hvb.out; omega
        have p0 : 1 ≤ pw := hpb.1
        have p1 : pw ≤ 256 := hpb.2
        clear hpb hj
        by_cases hjm : j < mx
        · have h88 : 8 * (i : Int) + (j : Int) < 8 * (i : Int) + 8 := by have := Hmx.out; omega
          have hjn : 8 * (i : Int) + (j : Int) < (n : Int) := by have := Hmx.out; omega
          have hk0 : (0 : Int) ≤ 8 * (i : Int) + (j : Int) := by omega
          have hk1 : 8 * (i : Int) + (j : Int) < 64 := by omega
          have hcell := HX.out.cell (setArr_get s (8 * i + j) (by rw [Hsl.out]; have := Hmx.out; have := Hn.out; omega))
          have hadr : (8 * (i : Int) + (j : Int)).toNat = 8 * i + j := by omega
          have hbit : s.getD (8 * i + j) false = (x / 256 ^ i).testBit j := by rw [shift_bit]; exact Hsg.out _ (by have := Hmx.out; omega)
          rw [hbit] at hcell
          obtain ⟨kz, rfl⟩ : ∃ z, gk = z + 1 := ⟨gk - 1, by have := Hj.out; omega⟩
          have Hstep := Aside0.mk (mod_bit (x / 256 ^ i) j)
          obtain ⟨b, hb⟩ : ∃ b, b = (x / 256 ^ i).testBit j := ⟨_, rfl⟩
          rw [← hb] at hcell Hstep
          clear hb hbit
          have HpN : Aside0 (2 * pw = ((2 ^ (j + 1) : Nat) : Int)) := ⟨by rw [Hp.out, Nat.pow_succ]; omega⟩
          have HvN : Aside0 ((if b then vv + pw else vv) = ((x / 256 ^ i % 2 ^ (j + 1) : Nat) : Int)) := ⟨by
            rw [Hstep.out, Hv.out, Hp.out]
            cases b <;> simp⟩
          cases b with
          | true =>
            have HvT : Aside0 (vv + pw = ((x / 256 ^ i % 2 ^ (j + 1) : Nat) : Int)) := ⟨by simpa using HvN.out⟩
            clear HvN Hstep
            go_wp2_with fail
            go_roundg kz
            case measure => omega
            case rel => exact ⟨j + 1, vv + pw, 2 * pw, by have := Hj.out; omega, by go_num, by go_num, by go_num, HvT, HpN, HB, HX, HR⟩
          | false =>
            have HvT : Aside0 (vv = ((x / 256 ^ i % 2 ^ (j + 1) : Nat) : Int)) := ⟨by simpa using HvN.out⟩
            clear HvN Hstep
            go_wp2_with fail
            go_roundg kz
            case measure => omega
            case rel => exact ⟨j + 1, vv, 2 * pw, by have := Hj.out; omega, by go_num, by go_num, by go_num, HvT, HpN, HB, HX, HR⟩
        · obtain rfl : mx = j := by have := Hj.out; omega
          have hvE : vv = ((x / 256 ^ i % 256 : Nat) : Int) := by rw [Hv.out, Hend.out]
          have HvE := Aside0.mk hvE
          rw [← hvE] at Hbyte
          clear hvE
          rcases Nat.lt_or_ge mx 8 with h8 | h8
          · have h88 : 8 * (i : Int) + (mx : Int) < 8 * (i : Int) + 8 := by omega
            have hjn : ¬ 8 * (i : Int) + (mx : Int) < (n : Int) := by have := Hmx.out; omega
            have hv255 : vv ≤ 255 := by have := hvb.out; omega
            have hwr : IntKind.u8.wrap vv = vv := by rw [IntKind.wrap_u8]; omega
            have HXn := Aside0.mk HX.out
            go_wp2_with (at_builtin; refine Kd.R_append (Kd.int .u8) (w0 := w) w.heap.size rfl (.tmp 35) (.tmp 38) 85 5 (.int .u8 0) 1 rfl Try.underlying85 info8u rfl (by decide) (by decide) (.slice A l.length c) l vv [.int .u8 vv] (fun _ => True) (fun _ => False) rfl (by first | (go_simp; done) | (go_simp; rfl)) rfl (fun _ hk => hk.elim) (fun _ _ => trivial) HR.out HB.out HB.out.size (by have := Hll.out; omega) ?_; intro v1 w2 hr hb hg hat; have HR2 := Aside0.mk hr; have HB2 := Aside0.mk hb; have HX2 := Aside0.mk ((hg.block w.heap.size HX.out.lt (fun e => Nat.lt_irrefl _ (hfr.out _ e.symm))).trans HX.out); have hfr2 := Aside0.mk (fun k (hk : Value.ownBlock v1 = some k) => (hat.elim (fun e => hfr.out k (by rw [← e]; exact hk)) (fun ⟨b, e, hb'⟩ => by rw [e] at hk; injection hk with hk; subst hk; have := HX.out.lt; omega) : w.heap.size < k)); clear hr hb hg hat)
            obtain ⟨A2, c2, hve, _⟩ := Kd.R_reads HR2.out
            subst hve
            clear HR HB HX hwr
            obtain ⟨l2, hl2⟩ : ∃ q, q = l ++ [vv] := ⟨_, rfl⟩
            rw [← hl2] at HR2 hfr2 ⊢
            go_roundg kk
            case measure => omega
            case rel => exact ⟨i + 1, A2, c2, l2, by have := Hi_.out; omega, by rw [show (8 : Int) * ((i + 1 : Nat) : Int) = 8 * (i : Int) + 8 by omega], rfl, ⟨by rw [hl2, Hl.out, Hbyte.out]⟩, hfr2, HB2, HX2, HR2⟩
          · have h88 : ¬ 8 * (i : Int) + (mx : Int) < 8 * (i : Int) + 8 := by omega
            have hv255 : vv ≤ 255 := by have := hvb.out; omega
            have hwr : IntKind.u8.wrap vv = vv := by rw [IntKind.wrap_u8]; omega
            have HXn := Aside0.mk HX.out
            go_wp2_with (at_builtin; refine Kd.R_append (Kd.int .u8) (w0 := w) w.heap.size rfl (.tmp 35) (.tmp 38) 85 5 (.int .u8 0) 1 rfl Try.underlying85 info8u rfl (by decide) (by decide) (.slice A l.length c) l vv [.int .u8 vv] (fun _ => True) (fun _ => False) rfl (by first | (go_simp; done) | (go_simp; rfl)) rfl (fun _ hk => hk.elim) (fun _ _ => trivial) HR.out HB.out HB.out.size (by have := Hll.out; omega) ?_; intro v1 w2 hr hb hg hat; have HR2 := Aside0.mk hr; have HB2 := Aside0.mk hb; have HX2 := Aside0.mk ((hg.block w.heap.size HX.out.lt (fun e => Nat.lt_irrefl _ (hfr.out _ e.symm))).trans HX.out); have hfr2 := Aside0.mk (fun k (hk : Value.ownBlock v1 = some k) => (hat.elim (fun e => hfr.out k (by rw [← e]; exact hk)) (fun ⟨b, e, hb'⟩ => by rw [e] at hk; injection hk with hk; subst hk; have := HX.out.lt; omega) : w.heap.size < k)); clear hr hb hg hat)
            obtain ⟨A2, c2, hve, _⟩ := Kd.R_reads HR2.out
            subst hve
            clear HR HB HX hwr
            obtain ⟨l2, hl2⟩ : ∃ q, q = l ++ [vv] := ⟨_, rfl⟩
            rw [← hl2] at HR2 hfr2 ⊢
            go_roundg kk
            case measure => omega
            case rel => exact ⟨i + 1, A2, c2, l2, by have := Hi_.out; omega, by rw [show (8 : Int) * ((i + 1 : Nat) : Int) = 8 * (i : Int) + 8 by omega], rfl, ⟨by rw [hl2, Hl.out, Hbyte.out]⟩, hfr2, HB2, HX2, HR2⟩
    · have hlt' : ¬ 8 * (i : Int) < (n : Int) := by omega
      have hcv := Kd.C_string (P := Try.prog) (w := wr) Try.underlying85 Try.underlying5 Try.underlying9 (c := c) (Kd.R_reads' HR.out).2.2
      have hall : l = bytesD n x := by rw [Hl.out, List.take_of_length_le (by rw [bytesD_length]; omega)]
      rw [hall] at hcv ⊢
      go_wp2_with fail
      go_ret
      exact ⟨rfl, HB.out⟩
end Go.Proofs.Ytffemlfdhkndiaa.Hand
end
