/- Parts of the proof for TrackPlays: RunsB, RunsD, RunsH, DirtR, Track, TrackB, TrackC, Kept, TrackG, Alg, Alg2, DirtN, DirtB. -/
import Derived.Lib.SliceRun
import Derived.Test.YtffemlfdhkndiaaJTrackPlays3
import Derived.Test.YtffemlfdhkndiaaJTrackPlays2
import Derived.Test.YtffemlfdhkndiaaJTrackPlays4
section
namespace Go.Proofs.Ytffemlfdhkndiaa.Hand
open Go.RowKit Go.Proofs.YtffemlfdhkndiaaW.PrintWords Go.Proofs.YtffemlfdhkndiaaW.PrintLast Go.Proofs.YtffemlfdhkndiaaW.PrintMore Go.Proofs.Ytffemlfdhkndiaa.A
set_option linter.unusedVariables false
set_option linter.unusedSimpArgs false
attribute [local go_sem] max2_int min2_int max_two min_two max_three min_three max_four min_four
theorem clone_nil (w : World) :
    Calls Try.prog 55 #[.slice none 0 0] w fun e w' => ∃ v, e = .returned v ∧ ORow w' w.heap.size v [] ∧ Below w.heap.size w w' := by
  have q0 := fun W => Lib.run_eql_slice_nil (P := Try.prog) W 22 31 none 0 0 0 0 Try.underlying22
  go_enter Try.func55, Try.ntmps55
  go_wp2_with fail
  go_ret
  exact ⟨_, rfl, ORow.nil _ _, Below.refl _ _⟩
set_option maxRecDepth 100000 in
theorem clone_some (a : Addr) (c : Nat) (l : List S31) (hn : l.length ≤ 1000000) (w : World) (hC : Kd.C k31 w (some a) l.length l) :
    Calls Try.prog 55 #[.slice (some a) l.length c] w fun e w' => ∃ v, e = .returned v ∧ ORow w' w.heap.size v l ∧ Below w.heap.size w w' := by
  have q0 := fun W => Lib.run_eql_slice_nil (P := Try.prog) W 22 31 (some a) l.length c 0 0 Try.underlying22
  have HC := Aside0.mk hC
  have Hn := Aside0.mk hn
  clear hC hn
  go_enter Try.func55, Try.ntmps55
  go_wp2_with ((with_reducible refine gate_builtin (b := .append) (xs := #[.tmp 5, .tmp 6]) rfl ?_); at_builtin; refine Kd.R_append_rows k31 (Rr := k31.K (w.alloc (.cells #[] 31))) (w0 := w) w.heap.size rfl (.tmp 5) (.tmp 6) 22 31 (.agg #[(.int .i64 0), (.int .i64 0)]) 16 rfl Try.underlying22 info31' rfl (by decide) (by decide) (.slice (some ⟨w.heap.size, 0, none⟩) 0 0) [] l (some a) l.length c (fun _ => True) (fun _ => False) rfl rfl ?aO ?aR ?aK (fun _ h => h.elim) (fun _ _ => trivial) ?aB ?aS ?aL ?_; (case aO => exact ⟨fun _ _ => trivial, [], World.ownsRow_lit w #[] 0 (Nat.le_refl _) (by decide) rfl, Reps.none _ _⟩); (case aR => exact Kd.C_below HC.out (below_alloc (Below.refl _ _) _)); (case aK => (intro x cs hk; rw [k31_open hk]; exact k31_mkM _ _ _ _)); (case aB => exact below_alloc (Below.refl _ _) _); (case aS => simp); (case aL => (have := Hn.out; simp only [List.length_nil]; omega)); intro v1 w1 ho hb hg hat; have HO := Aside0.mk (ORow.of_R ho); have HB := Aside0.mk hb; clear ho hb hg hat)
  obtain ⟨A1, c1, hv, _⟩ := HO.out.reads
  subst hv
  go_ret
  exact ⟨_, rfl, HO.out, HB.out⟩
set_option maxRecDepth 100000 in
theorem runs_all (base g : Nat) (l : List S31) (hn : l.length ≤ 1000000) (w : World) (h : RunsAt w base g l) :
    Calls Try.prog 26 #[ptrR g] w fun e w' => ∃ v, e = .returned v ∧ ORow w' w.heap.size v l ∧ Below w.heap.size w w' := by
  obtain ⟨v0, hb, ho⟩ := h
  have hcl : ∀ v0, ORow w base v0 l → Calls Try.prog 55 #[v0] w fun e w' => ∃ v, e = .returned v ∧ ORow w' w.heap.size v l ∧ Below w.heap.size w w' := by
    intro v0 ho
    obtain ⟨A, c, rfl, hlc, hC, _⟩ := ho.reads
    cases A with
    | none =>
      rcases ho.2 with ⟨he, h0⟩ | ⟨g', cap, cur, he, _⟩
      · obtain rfl : l = [] := List.eq_nil_of_length_eq_zero h0
        rw [he]; exact clone_nil w
      · cases he
    | some a => exact clone_some a c l hn w hC
  have Hcl := Aside0.mk (hcl v0 ho)
  obtain ⟨A, c, rfl, hlc, hC, _⟩ := ho.reads
  have c0 := hb.cell (i := 0) rfl
  clear hb ho hcl hC hlc
  go_enter Try.func26, Try.ntmps26
  go_wp2_with fail
  refine Hcl.out.mono ?_
  rintro e w1 ⟨v, rfl, ho, hB⟩
  have HO := Aside0.mk ho
  have HB := Aside0.mk hB
  clear ho hB
  obtain ⟨A1, c1, hv, _⟩ := HO.out.reads
  subst hv
  go_wp2_with fail
  go_ret
  exact ⟨_, rfl, HO.out, HB.out⟩
theorem sumN_step (l : List S31) (i : Nat) (h : i < l.length) : sumN (l.take (i + 1)) = sumN (l.take i) + l[i].f1 := by
  rw [List.take_succ_eq_append_getElem h, sumN_append, sumN_cons]; simp [sumN]
set_option maxRecDepth 100000 in
theorem runs_count_of (P0 : Value) (l : List S31) (w : World) (hT : Tidy 0 l) (ha : Calls Try.prog 26 #[P0] w fun e w' => ∃ v, e = .returned v ∧ ORow w' w.heap.size v l ∧ Below w.heap.size w w') :
    Calls Try.prog 32 #[P0] w fun e w' => e = .returned (.int .i64 (sumN l)) ∧ Below w.heap.size w w' := by
  have hlen := hT.length (by decide)
  have HT := Aside0.mk hT
  have Hc := Aside0.mk ha
  clear ha hT
  go_enter Try.func32, Try.ntmps32
  go_wp2_with fail
  refine Hc.out.mono ?_
  rintro e w1 ⟨v, rfl, ho, hB⟩
  obtain ⟨A, c, rfl, hlc, hC, _⟩ := ho.reads
  have HB1 := Aside0.mk hB
  have HC := Aside0.mk hC
  clear ho hC hB Hc hlc
  go_wp2_with fail
  go_loopg [3, 9] l.length (fun kq u v wq => ∃ i : Nat, i + kq = l.length ∧ v = .int .i64 (i : Int) ∧ u = .int .i64 (sumN (l.take i)) ∧ Aside0 (Below w1.heap.size w1 wq))
  case atStart => exact ⟨0, by omega, rfl, rfl, ⟨Below.refl _ _⟩⟩
  case round =>
    obtain ⟨i, hi, rfl, rfl, HB⟩ := hrel
    by_cases hlt : i < l.length
    · obtain ⟨ad, e1, x0, x1⟩ := at_T31 (Kd.C_below HC.out HB.out) (i : Int) (by omega) (by omega)
      subst e1
      rw [Int.toNat_natCast, rd_get l i hlt] at x0 x1
      have hlt' : (i : Int) < (l.length : Int) := by omega
      have hs := (HT.out.take i).sum (by decide)
      obtain ⟨hs0, hs1⟩ := hs
      have hw := HT.out.whole (Int.le_refl _) _ (List.getElem_mem hlt)
      obtain ⟨hw0, hw1, hw2⟩ := hw
      have hs2 := Aside0.mk (sumN_step l i hlt)
      generalize sumN (l.take i) = z at *
      generalize l[i] = X at *
      obtain ⟨F, M⟩ := X
      simp only at x0 x1 hw0 hw1 hw2 hs2
      obtain ⟨kk, rfl⟩ : ∃ z, gk = z + 1 := ⟨gk - 1, by omega⟩
      go_wp2_with fail
      go_roundg kk
      case measure => omega
      case rel => exact ⟨i + 1, by omega, by go_num, by rw [hs2.out], ⟨below_alloc HB.out _⟩⟩
    · have hlt' : ¬ (i : Int) < (l.length : Int) := by omega
      obtain rfl : i = l.length := by omega
      rw [List.take_length]
      go_wp2_with fail
      go_ret
      exact ⟨rfl, below_step HB1.out HB.out⟩
theorem runs_count (base g : Nat) (l : List S31) (w : World) (hT : Tidy 0 l) (h : RunsAt w base g l) :
    Calls Try.prog 32 #[ptrR g] w fun e w' => e = .returned (.int .i64 (sumN l)) ∧ Below w.heap.size w w' :=
  runs_count_of _ l w hT (runs_all base g l (by have := hT.length (by decide); omega) w h)
instance (x : S31) (k : Int) : Decidable (inSp x k) := by unfold inSp; infer_instance
/-- Whether a block is in one of them. -/
def memB (l : List S31) (k : Int) : Bool := l.any fun x => decide (inSp x k)
theorem memB_iff (l : List S31) (k : Int) : memB l k = true ↔ mem l k := by
  unfold memB mem
  rw [List.any_eq_true]
  constructor
  · rintro ⟨x, h, hk⟩
    exact ⟨x, h, of_decide_eq_true hk⟩
  · rintro ⟨x, h, hk⟩
    exact ⟨x, h, decide_eq_true hk⟩
theorem memB_of (l : List S31) (i : Nat) (k : Int) (h : i < l.length) (hk : inSp l[i] k) : memB l k = true := (memB_iff l k).2 ⟨_, List.getElem_mem h, hk⟩
set_option maxRecDepth 100000 in
theorem runs_has_of (P0 : Value) (l : List S31) (k : Int) (w : World) (hT : Tidy 0 l) (ha : Calls Try.prog 26 #[P0] w fun e w' => ∃ v, e = .returned v ∧ ORow w' w.heap.size v l ∧ Below w.heap.size w w') :
    Calls Try.prog 43 #[P0, .int .i64 k] w fun e w' => e = .returned (.bool (memB l k)) ∧ Below w.heap.size w w' := by
  have hlen := hT.length (by decide)
  have HT := Aside0.mk hT
  have Hc := Aside0.mk ha
  have Hm : Aside0 (∀ i, (h : i < l.length) → inSp l[i] k → memB l k = true) := ⟨fun i h => memB_of l i k h⟩
  have Hn : Aside0 ((∀ i, (h : i < l.length) → ¬ inSp l[i] k) → memB l k = false) := ⟨fun h => by
    cases hb : memB l k
    · rfl
    · obtain ⟨x, hx, hk⟩ := (memB_iff l k).1 hb
      obtain ⟨i, hi, rfl⟩ := List.getElem_of_mem hx
      exact absurd hk (h i hi)⟩
  generalize memB l k = b at *
  clear ha hT
  go_enter Try.func43, Try.ntmps43
  go_wp2_with fail
  refine Hc.out.mono ?_
  rintro e w1 ⟨v, rfl, ho, hB⟩
  obtain ⟨A, c, rfl, hlc, hC, _⟩ := ho.reads
  have HB1 := Aside0.mk hB
  have HC := Aside0.mk hC
  clear ho hC hB Hc hlc
  go_wp2_with fail
  go_loopg [10] l.length (fun kq v wq => ∃ i : Nat, i + kq = l.length ∧ v = .int .i64 (i : Int) ∧ Aside0 (∀ j, (h : j < l.length) → j < i → ¬ inSp l[j] k) ∧ Aside0 (Below w1.heap.size w1 wq))
  case atStart => exact ⟨0, by omega, rfl, ⟨fun j _ h => by omega⟩, ⟨Below.refl _ _⟩⟩
  case round =>
    obtain ⟨i, hi, rfl, HJ, HB⟩ := hrel
    by_cases hlt : i < l.length
    · obtain ⟨ad, e1, x0, x1⟩ := at_T31 (Kd.C_below HC.out HB.out) (i : Int) (by omega) (by omega)
      subst e1
      rw [Int.toNat_natCast, rd_get l i hlt] at x0 x1
      have hlt' : (i : Int) < (l.length : Int) := by omega
      have hw := Aside0.mk (HT.out.whole (Int.le_refl _) _ (List.getElem_mem hlt))
      have hmi := Aside0.mk (Hm.out i hlt)
      have hnx : Aside0 (¬ inSp l[i] k → ∀ j, (h : j < l.length) → j < i + 1 → ¬ inSp l[j] k) := ⟨fun hx j h hj => by
        by_cases e : j = i
        · subst e; exact hx
        · exact HJ.out j h (by omega)⟩
      have Hh := Aside0.mk (has_eq l[i].f0 l[i].f1 k)
      obtain ⟨kk, rfl⟩ : ∃ z, gk = z + 1 := ⟨gk - 1, by omega⟩
      by_cases hk : inSp l[i] k
      · have Hh2 : Aside0 (span_Has.f l[i].f0 l[i].f1 k = some true) := ⟨by rw [Hh.out, decide_eq_true ⟨hw.out, hk⟩]⟩
        have hb : b = true := hmi.out hk
        subst hb
        clear hk hnx
        generalize l[i] = X at *
        obtain ⟨F, M⟩ := X
        simp only at x0 x1 Hh2
        go_wp2_with fail
        refine (span_Has.calls F M k true _ Hh2.out).mono ?_
        rintro e w2 ⟨rfl, hB⟩
        have HB2 : Aside0 (Below w.heap.size w w2) := ⟨below_step (below_step HB1.out (below_alloc HB.out _)) hB⟩
        clear hB x0 x1
        go_wp2_with fail
        go_ret
        exact ⟨rfl, HB2.out⟩
      · have Hh2 : Aside0 (span_Has.f l[i].f0 l[i].f1 k = some false) := ⟨by rw [Hh.out, decide_eq_false (fun h => hk h.2)]⟩
        replace hnx := Aside0.mk (hnx.out hk)
        clear hk hmi
        generalize l[i] = X at *
        obtain ⟨F, M⟩ := X
        simp only at x0 x1 Hh2
        go_wp2_with fail
        refine (span_Has.calls F M k false _ Hh2.out).mono ?_
        rintro e w2 ⟨rfl, hB⟩
        have HB2 : Aside0 (Below w1.heap.size w1 w2) := ⟨below_step (below_alloc HB.out _) hB⟩
        clear hB x0 x1
        go_wp2_with fail
        go_roundg kk
        case measure => omega
        case rel => exact ⟨i + 1, by omega, by go_num, hnx, HB2⟩
    · have hlt' : ¬ (i : Int) < (l.length : Int) := by omega
      have hb : b = false := Hn.out (fun j h => HJ.out j h (by omega))
      subst hb
      go_wp2_with fail
      go_ret
      exact ⟨rfl, below_step HB1.out HB.out⟩
theorem runs_has (base g : Nat) (l : List S31) (k : Int) (w : World) (hT : Tidy 0 l) (h : RunsAt w base g l) :
    Calls Try.prog 43 #[ptrR g, .int .i64 k] w fun e w' => e = .returned (.bool (memB l k)) ∧ Below w.heap.size w w' :=
  runs_has_of _ l k w hT (runs_all base g l (by have := hT.length (by decide); omega) w h)
end Go.Proofs.Ytffemlfdhkndiaa.Hand
end
section
namespace Go.Proofs.Ytffemlfdhkndiaa.Hand
open Go.RowKit Go.Proofs.YtffemlfdhkndiaaW.PrintWords Go.Proofs.YtffemlfdhkndiaaW.PrintLast Go.Proofs.YtffemlfdhkndiaaW.PrintMore Go.Proofs.Ytffemlfdhkndiaa.A
set_option linter.unusedVariables false
set_option linter.unusedSimpArgs false
attribute [local go_sem] max2_int min2_int max_two min_two max_three min_three max_four min_four
theorem add_block (a : Addr) (j : Nat) : (a.add j).block = a.block := by unfold Addr.add; split <;> rfl
/-- A row (if there is one) is not in a block. -/
def Off (A : Option Addr) (n g : Nat) : Prop := 0 < n → ∀ a, A = some a → a.block ≠ g
theorem off_lt {w : World} {n g : Nat} {A : Option Addr} {l : List S31} (h : Kd.C k31 w A n l) (hg : w.heap.size ≤ g) : Off A n g := by
  intro hn a ha e
  obtain ⟨ad, he, x0, _⟩ := at_T31 h 0 (Int.le_refl _) (by omega)
  rw [ha] at he
  injection he with he
  subst he
  have := World.block_lt_of_cell? _ _ x0
  simp only [add_block] at this
  omega
theorem off_row {w : World} {base g : Nat} {A : Option Addr} {c : Nat} {l : List S31} (h : ORow w base (.slice A l.length c) l) (hg : g < base) : Off A l.length g := by
  intro hn a ha e
  subst ha
  have := own_base h a.block (by rfl)
  omega
theorem C_only {w w1 : World} {g n : Nat} {A : Option Addr} {l : List S31} (h : Kd.C k31 w A n l) (ho : Only w w1 g) (hne : Off A n g) : Kd.C k31 w1 A n l := by
  refine ⟨h.1, h.2.1, fun hn => ?_⟩
  obtain ⟨ad, e, hc⟩ := h.2.2 hn
  refine ⟨ad, e, fun j p hj => ?_⟩
  obtain ⟨c, h1, h2, h3⟩ := hc j p hj
  refine ⟨c, h1, ?_, fun i u hu => keepO ho (h3 i u hu) (by rw [add_block]; exact hne hn ad e)⟩
  rw [k31_open h2]; exact k31_mk w1 p
def putOneV (l : List S31) (s : S31) : List S31 := if wh s.f0 s.f1 then addV l s else l
def putV (l ls : List S31) : List S31 := ls.foldl putOneV l
/-- Blocks of whole spans. -/
def wmem (ls : List S31) (k : Int) : Prop := ∃ s ∈ ls, wh s.f0 s.f1 ∧ inSp s k
theorem putV_spec : ∀ (ls l : List S31), Tidy 0 l → Tidy 0 (putV l ls) ∧ ∀ k, mem (putV l ls) k ↔ mem l k ∨ wmem ls k
  | [], l, h => ⟨h, fun k => by show mem l k ↔ _; unfold wmem; simp⟩
  | s :: ls, l, h => by
    show Tidy 0 (putV (putOneV l s) ls) ∧ ∀ k, mem (putV (putOneV l s) ls) k ↔ _
    unfold putOneV wmem
    by_cases hs : wh s.f0 s.f1
    · rw [if_pos hs]
      obtain ⟨a1, a2⟩ := addV_spec h hs
      obtain ⟨b1, b2⟩ := putV_spec ls _ a1
      refine ⟨b1, fun k => ?_⟩
      rw [b2 k, a2 k]
      unfold wmem
      constructor
      · rintro ((h | h) | ⟨x, h1, h2⟩)
        · exact .inl h
        · exact .inr ⟨s, List.mem_cons_self, hs, h⟩
        · exact .inr ⟨x, List.mem_cons_of_mem _ h1, h2⟩
      · rintro (h | ⟨x, h1, h2⟩)
        · exact .inl (.inl h)
        · rcases List.mem_cons.1 h1 with rfl | h1
          · exact .inl (.inr h2.2)
          · exact .inr ⟨x, h1, h2⟩
    · rw [if_neg hs]
      obtain ⟨b1, b2⟩ := putV_spec ls _ h
      refine ⟨b1, fun k => ?_⟩
      rw [b2 k]
      unfold wmem
      constructor
      · rintro (h | ⟨x, h1, h2⟩)
        · exact .inl h
        · exact .inr ⟨x, List.mem_cons_of_mem _ h1, h2⟩
      · rintro (h | ⟨x, h1, h2⟩)
        · exact .inl h
        · rcases List.mem_cons.1 h1 with rfl | h1
          · exact absurd h2.1 hs
          · exact .inr ⟨x, h1, h2⟩
set_option maxRecDepth 100000 in
set_option maxHeartbeats 1600000 in
theorem runs_put (base g : Nat) (l ls : List S31) (A : Option Addr) (c : Nat) (w : World) (hT : Tidy 0 l) (h : RunsAt w base g l) (hbase : base ≤ w.heap.size) (hC : Kd.C k31 w A ls.length ls) (hne : Off A ls.length g) :
    Calls Try.prog 31 #[ptrR g, .slice A ls.length c] w fun e w' => e = .returned (.int .i64 (sumN (putV l ls) - sumN l)) ∧ RunsAt w' base g (putV l ls) ∧ Only w w' g := by
  have hln : ls.length ≤ 9223372036854775807 := by have := hC.2.1; unfold maxLen at this; omega
  have HT := Aside0.mk hT
  have H := Aside0.mk h
  have HC := Aside0.mk hC
  have Hne := Aside0.mk hne
  have Hbase := Aside0.mk hbase
  obtain ⟨s0, s1⟩ := hT.sum (by decide)
  clear h hT hC hne hbase
  go_enter Try.func31, Try.ntmps31
  go_wp2_with fail
  refine (runs_count base g l _ HT.out H.out).mono ?_
  rintro e w1 ⟨rfl, hB⟩
  have HO1 : Aside0 (Only w w1 g) := ⟨only_below (only_refl _ _) hB⟩
  have HR1 := Aside0.mk (H.out.keep hB)
  clear hB
  generalize hz : sumN l = z at *
  go_wp2_with fail
  go_loopg [14] ls.length (fun kq v wq => ∃ i : Nat, i + kq = ls.length ∧ v = .int .i64 (i : Int) ∧ Aside0 (Only w wq g) ∧ Aside0 (RunsAt wq base g (putV l (ls.take i))))
  case atStart => exact ⟨0, by omega, rfl, HO1, HR1⟩
  case round =>
    clear HO1 HR1
    obtain ⟨i, hi, rfl, HO, HR⟩ := hrel
    have HTi := Aside0.mk (putV_spec (ls.take i) l HT.out).1
    by_cases hlt : i < ls.length
    · obtain ⟨ad, e1, x0, x1⟩ := at_T31 (C_only HC.out HO.out Hne.out) (i : Int) (by omega) (by omega)
      subst e1
      rw [Int.toNat_natCast, rd_get ls i hlt] at x0 x1
      have hlt' : (i : Int) < (ls.length : Int) := by omega
      have hone : Aside0 (putV l (ls.take (i + 1)) = putOneV (putV l (ls.take i)) ls[i]) := ⟨foldl_snoc putOneV l ls i hlt⟩
      generalize ls[i] = X at *
      obtain ⟨F, M⟩ := X
      simp only at x0 x1
      have Hv := Aside0.mk (valid_eq F M 64 (by decide))
      obtain ⟨kk, rfl⟩ : ∃ z, gk = z + 1 := ⟨gk - 1, by omega⟩
      by_cases hw : wh F M
      · have Hv2 : Aside0 (span_Valid.f F M 64 = some true) := ⟨by rw [Hv.out, decide_eq_true ⟨hw, hw.2.2⟩]⟩
        have hone2 : Aside0 (putV l (ls.take (i + 1)) = addV (putV l (ls.take i)) ⟨F, M⟩) := ⟨by rw [hone.out]; unfold putOneV; rw [if_pos hw]⟩
        have Hw := Aside0.mk hw
        clear hw hone Hv
        go_wp2_with fail
        refine (span_Valid.calls F M 64 true _ Hv2.out).mono ?_
        rintro e w2 ⟨rfl, hB⟩
        have HX2 : Aside0 (Blk w2 wr.heap.size 31 #[.int .i64 F, .int .i64 M]) := ⟨(Blk.new wr _ _).keep hB⟩
        have HO2 : Aside0 (Only w w2 g) := ⟨only_below (only_alloc HO.out _) hB⟩
        have HR2 : Aside0 (RunsAt w2 base g (putV l (ls.take i))) := ⟨(HR.out.keep (below_alloc (Below.refl _ _) _)).keep hB⟩
        have c1 := HX2.out.cell (i := 0) rfl
        have c2 := HX2.out.cell (i := 1) rfl
        clear hB x0 x1
        go_wp2_with fail
        refine (runs_add base g _ F M _ HR2.out HTi.out Hw.out (by have := HO2.out.size; have := Hbase.out; omega)).mono ?_
        rintro e w3 ⟨rfl, hr, ho⟩
        have HO3 : Aside0 (Only w w3 g) := ⟨only_trans HO2.out ho⟩
        have HR3 := Aside0.mk hr
        clear hr ho c1 c2
        go_wp2_with fail
        go_roundg kk
        case measure => omega
        case rel => exact ⟨i + 1, by omega, by go_num, HO3, by rw [hone2.out]; exact HR3⟩
      · have Hv2 : Aside0 (span_Valid.f F M 64 = some false) := ⟨by rw [Hv.out, decide_eq_false (fun h => hw h.1)]⟩
        have hone2 : Aside0 (putV l (ls.take (i + 1)) = putV l (ls.take i)) := ⟨by rw [hone.out]; unfold putOneV; rw [if_neg hw]⟩
        clear hw hone Hv
        go_wp2_with fail
        refine (span_Valid.calls F M 64 false _ Hv2.out).mono ?_
        rintro e w2 ⟨rfl, hB⟩
        have HO2 : Aside0 (Only w w2 g) := ⟨only_below (only_alloc HO.out _) hB⟩
        have HR2 : Aside0 (RunsAt w2 base g (putV l (ls.take i))) := ⟨(HR.out.keep (below_alloc (Below.refl _ _) _)).keep hB⟩
        clear hB x0 x1
        go_wp2_with fail
        go_roundg kk
        case measure => omega
        case rel => exact ⟨i + 1, by omega, by go_num, HO2, by rw [hone2.out]; exact HR2⟩
    · have hlt' : ¬ (i : Int) < (ls.length : Int) := by omega
      obtain rfl : i = ls.length := by omega
      rw [List.take_length] at HR HTi
      go_wp2_with fail
      refine (runs_count base g _ _ HTi.out HR.out).mono ?_
      rintro e w2 ⟨rfl, hB⟩
      obtain ⟨t0, t1⟩ := HTi.out.sum (by decide)
      have HR2 := Aside0.mk (HR.out.keep hB)
      have HO2 : Aside0 (Only w w2 g) := ⟨only_below HO.out hB⟩
      clear hB
      generalize hy : sumN (putV l ls) = y at *
      go_wp2_with fail
      go_ret
      exact ⟨by rw [hz, hy]; rfl, HR2.out, HO2.out⟩
set_option maxRecDepth 100000 in
theorem runs_of (ls : List S31) (A : Option Addr) (c : Nat) (w : World) (hC : Kd.C k31 w A ls.length ls) :
    Calls Try.prog 54 #[.slice A ls.length c] w fun e w' => e = .returned (ptrR w.heap.size) ∧ RunsAt w' w.heap.size w.heap.size (putV [] ls) ∧ Below w.heap.size w w' := by
  have HC := Aside0.mk hC
  have Hne := Aside0.mk (off_lt hC (Nat.le_refl _))
  clear hC
  go_enter Try.func54, Try.ntmps54
  go_wp2_with fail
  refine (runs_put w.heap.size w.heap.size [] ls A c _ trivial ⟨_, Blk.new _ _ _, own_alloc (ORow.nil _ _) _⟩ (by simp) (Kd.C_below HC.out (below_alloc (Below.refl _ _) _)) Hne.out).mono ?_
  rintro e w1 ⟨rfl, hr, ho⟩
  have HR := Aside0.mk hr
  have HB : Aside0 (Below w.heap.size w w1) := ⟨below_only (below_alloc (Below.refl _ _) _) ho (Nat.le_refl _)⟩
  clear hr ho
  go_wp2_with fail
  go_ret
  exact ⟨rfl, HR.out, HB.out⟩
end Go.Proofs.Ytffemlfdhkndiaa.Hand
end
section
namespace Go.Proofs.Ytffemlfdhkndiaa.Hand
open Go.RowKit Go.Proofs.YtffemlfdhkndiaaW.PrintWords Go.Proofs.YtffemlfdhkndiaaW.PrintLast Go.Proofs.YtffemlfdhkndiaaW.PrintMore Go.Proofs.Ytffemlfdhkndiaa.A
set_option linter.unusedVariables false
set_option linter.unusedSimpArgs false
attribute [local go_sem] max2_int min2_int max_two min_two max_three min_three max_four min_four
attribute [local go_sem high] eqA31
/-- How many of the first so many. -/
def cntB (f : Nat → Bool) : Nat → Nat
  | 0 => 0
  | n + 1 => cntB f n + (if f n = true then 1 else 0)
theorem cntB_congr {f g : Nat → Bool} : ∀ n, (∀ k, k < n → f k = g k) → cntB f n = cntB g n
  | 0, _ => rfl
  | n + 1, h => by unfold cntB; rw [cntB_congr n (fun k hk => h k (by omega)), h n (by omega)]
theorem wmem_tidy {l : List S31} (h : Tidy 0 l) (k : Int) : wmem l k ↔ mem l k := ⟨fun ⟨x, h1, h2⟩ => ⟨x, h1, h2.2⟩, fun ⟨x, h1, h2⟩ => ⟨x, h1, h.whole (Int.le_refl _) x h1, h2⟩⟩
theorem putV_nil (ls : List S31) : Tidy 0 (putV [] ls) ∧ ∀ k, mem (putV [] ls) k ↔ wmem ls k := by
  obtain ⟨a, b⟩ := putV_spec ls [] trivial
  exact ⟨a, fun k => by have := b k; have hn := mem_nil k; simp only [hn, false_or] at this; exact this⟩
theorem ORow.lit (w : World) (base : Nat) (hb : base ≤ w.heap.size) (l : List S31) (hl : l.length ≤ 1000000) (cs : Array Value) (hcs : cs.toList = flat l) : ORow (w.alloc (.cells cs 31)) base (.slice (some ⟨w.heap.size, 0, none⟩) l.length l.length) l := by
  have h := World.ownsRow_lit (base := base) (e := 31) (size := 2) w cs l.length hb (by unfold maxLen; omega) (by rw [← Array.length_toList, hcs, flat_length])
  rw [hcs] at h
  exact h
theorem C_lit (w : World) (l : List S31) (hl : l.length ≤ 1000000) (cs : Array Value) (hcs : cs.toList = flat l) : Kd.C k31 (w.alloc (.cells cs 31)) (some ⟨w.heap.size, 0, none⟩) l.length l := by
  obtain ⟨A, c, he, _, hC, _⟩ := (ORow.lit w 0 (Nat.zero_le _) l hl cs hcs).reads
  injection he with he _ _
  rw [he]; exact hC
end Go.Proofs.Ytffemlfdhkndiaa.Hand
end
section
namespace Go.Proofs.Ytffemlfdhkndiaa.Hand
open Go.RowKit Go.Proofs.YtffemlfdhkndiaaW.PrintWords Go.Proofs.YtffemlfdhkndiaaW.PrintLast Go.Proofs.YtffemlfdhkndiaaW.PrintMore Go.Proofs.Ytffemlfdhkndiaa.A Go.Proofs.Ytffemlfdhkndiaa.Bits
set_option linter.unusedVariables false
set_option linter.unusedSimpArgs false
attribute [local go_sem] max2_int min2_int max_two min_two max_three min_three max_four min_four
theorem C_noneR (w : World) : Kd.C k31 w none 0 [] := ⟨rfl, by decide, fun h => by omega⟩
/-- The first marks, as a set. -/
def bitsS (n x : Nat) : List Bool := (List.range 64).map fun k => decide (k < n) && x.testBit k
theorem bitsS_length (n x : Nat) : (bitsS n x).length = 64 := by unfold bitsS; simp
theorem bitsS_get (n x k : Nat) (hk : k < 64) : (bitsS n x).getD k false = (decide (k < n) && x.testBit k) := by
  unfold bitsS
  rw [List.getD_eq_getElem?_getD, List.getElem?_map, List.getElem?_range hk]; rfl
theorem bits_mem (n x : Nat) (j : Int) : mem (spansOf (bitsS n x)) j ↔ 0 ≤ j ∧ j < 64 ∧ j < n ∧ x.testBit j.toNat = true := by
  rw [spansOf_mem]
  constructor
  · rintro ⟨a, b, c⟩
    rw [bitsS_get _ _ _ (by omega)] at c
    simp only [Bool.and_eq_true, decide_eq_true_eq] at c
    exact ⟨a, b, by omega, c.2⟩
  · rintro ⟨a, b, c, d⟩
    refine ⟨a, b, ?_⟩
    rw [bitsS_get _ _ _ (by omega), d]
    simp; omega
theorem bits_zero (x : Nat) : spansOf (bitsS 0 x) = [] := by
  refine (spansOf_tidy _).ext (lo' := 0) trivial (fun j => ?_)
  rw [bits_mem]
  have := mem_nil j
  simp only [this, iff_false]
  omega
theorem bits_step (i x : Nat) (hi : i < 64) : spansOf (bitsS (i + 1) x) = if x.testBit i then putV (spansOf (bitsS i x)) [⟨(i : Int), 1⟩] else spansOf (bitsS i x) := by
  by_cases h : x.testBit i = true
  · rw [if_pos h]
    obtain ⟨a, b⟩ := putV_spec [⟨(i : Int), 1⟩] _ (spansOf_tidy (bitsS i x))
    refine (spansOf_tidy _).ext a (fun j => ?_)
    rw [b, bits_mem, bits_mem]
    unfold wmem inSp wh
    simp only [List.mem_singleton, exists_eq_left]
    constructor
    · rintro ⟨h1, h2, h3, h4⟩
      by_cases hj : j = i
      · exact .inr ⟨by omega, by omega⟩
      · exact .inl ⟨h1, h2, by omega, h4⟩
    · rintro (⟨h1, h2, h3, h4⟩ | ⟨h1, h2⟩)
      · exact ⟨h1, h2, by omega, h4⟩
      · obtain rfl : j = i := by omega
        exact ⟨by omega, by omega, by omega, by simpa using h⟩
  · rw [if_neg h]
    refine (spansOf_tidy _).ext (spansOf_tidy _) (fun j => ?_)
    rw [bits_mem, bits_mem]
    constructor
    · rintro ⟨h1, h2, h3, h4⟩
      refine ⟨h1, h2, ?_, h4⟩
      by_cases hj : j = i
      · subst hj; simp at h4; simp [h4] at h
      · omega
    · rintro ⟨h1, h2, h3, h4⟩
      exact ⟨h1, h2, by omega, h4⟩
set_option maxRecDepth 100000 in
set_option maxHeartbeats 800000 in
theorem dirt_runs (g n x : Nat) (hn : n ≤ 64) (hx : x < 18446744073709551616) (w : World) (hd : DirtAt w g n x) :
    Calls Try.prog 25 #[ptr g] w fun e w' => e = .returned (ptrR w.heap.size) ∧ RunsAt w' w.heap.size w.heap.size (spansOf (bitsS n x)) ∧ Below w.heap.size w w' := by
  have HD := Aside0.mk hd
  clear hd
  go_enter Try.func25, Try.ntmps25
  go_wp2_with fail
  refine (runs_of [] none 0 _ (C_noneR _)).mono ?_
  rintro e w1 ⟨rfl, hr, hB⟩
  have HB1 := Aside0.mk hB
  have HR1 : Aside0 (RunsAt w1 w.heap.size w.heap.size []) := ⟨hr⟩
  clear hr hB
  go_wp2_with fail
  refine (dirt_blocks g n x _ (HD.out.keep HB1.out)).mono ?_
  rintro e w2 ⟨rfl, hB⟩
  have HB2 := Aside0.mk (below_step HB1.out hB)
  have HR2 := Aside0.mk (HR1.out.keep hB)
  clear hB HB1 HR1
  go_wp2_with fail
  go_loopg [8] n (fun kq v wq => ∃ i : Nat, i + kq = n ∧ v = .int .i64 (i : Int) ∧ Aside0 (Below w.heap.size w wq) ∧ Aside0 (RunsAt wq w.heap.size w.heap.size (spansOf (bitsS i x))))
  case atStart => exact ⟨0, by omega, rfl, HB2, by rw [bits_zero]; exact HR2⟩
  case round =>
    clear HB2 HR2
    obtain ⟨i, hi, rfl, HB, HR⟩ := hrel
    by_cases hlt : i < n
    · have hlt' : (i : Int) < (n : Int) := by omega
      have hi0 : (0 : Int) ≤ (i : Int) := by omega
      have hi1 : (i : Int) ≤ 64 := by omega
      have hs := Aside0.mk (bits_step i x (by omega))
      obtain ⟨kk, rfl⟩ : ∃ z, gk = z + 1 := ⟨gk - 1, by omega⟩
      have hh := Aside0.mk (dirt_has g n x hn hx (i : Int) wr (HD.out.keep HB.out))
      rw [show (decide ((0 : Int) ≤ (i : Int)) && decide ((i : Int) < (n : Int)) && x.testBit ((i : Int)).toNat) = x.testBit i by rw [Int.toNat_natCast, decide_eq_true hi0, decide_eq_true hlt']; rfl] at hh
      cases hb : x.testBit i
      · rw [hb] at hh hs
        clear hb
        go_wp2_with fail
        refine hh.out.mono ?_
        rintro e w3 ⟨rfl, hB⟩
        have HB3 := Aside0.mk (below_step HB.out hB)
        have HR3 := Aside0.mk (HR.out.keep hB)
        clear hB HB HR hh
        go_wp2_with fail
        go_roundg kk
        case measure => omega
        case rel => exact ⟨i + 1, by omega, by go_num, HB3, by rw [hs.out]; exact HR3⟩
      · rw [hb] at hh hs
        clear hb
        go_wp2_with fail
        refine hh.out.mono ?_
        rintro e w3 ⟨rfl, hB⟩
        have HB3 := Aside0.mk (below_step HB.out hB)
        have HR3 := Aside0.mk (HR.out.keep hB)
        clear hB HB HR hh
        go_wp2_with fail
        refine (runs_put w.heap.size w.heap.size _ [⟨(i : Int), 1⟩] (some ⟨w3.heap.size, 0, none⟩) 1 _ (spansOf_tidy (bitsS i x)) (HR3.out.keep (below_alloc (Below.refl _ _) _)) (below_size (below_alloc HB3.out _)) (C_lit w3 [⟨(i : Int), 1⟩] (by simp) #[.int .i64 (i : Int), .int .i64 1] rfl) (fun _ a ha => by injection ha with ha; subst ha; have := HR3.out.lt; simp; omega)).mono ?_
        rintro e w4 ⟨rfl, hr, ho⟩
        have HB4 := Aside0.mk (below_only (below_alloc HB3.out _) ho (Nat.le_refl _))
        have HR4 := Aside0.mk hr
        clear hr ho HB3 HR3
        go_wp2_with fail
        go_roundg kk
        case measure => omega
        case rel => exact ⟨i + 1, by omega, by go_num, HB4, by rw [hs.out]; exact HR4⟩
    · have hlt' : ¬ (i : Int) < (n : Int) := by omega
      obtain rfl : i = n := by omega
      go_wp2_with fail
      go_ret
      exact ⟨rfl, HR.out, HB.out⟩
end Go.Proofs.Ytffemlfdhkndiaa.Hand
end
section
namespace Go.Proofs.Ytffemlfdhkndiaa.Hand
open Go.RowKit Go.Proofs.YtffemlfdhkndiaaW.PrintWords Go.Proofs.YtffemlfdhkndiaaW.PrintLast Go.Proofs.YtffemlfdhkndiaaW.PrintMore Go.Proofs.Ytffemlfdhkndiaa.A Go.Proofs.Ytffemlfdhkndiaa.Bits
set_option linter.unusedVariables false
set_option linter.unusedSimpArgs false
attribute [local go_sem] max2_int min2_int max_two min_two max_three min_three max_four min_four
theorem Blk.ne {w : World} {g g' t t' : Nat} {cs cs' : Array Value} (h : Blk w g t cs) (h' : Blk w g' t' cs') (ht : t ≠ t') : g ≠ g' := by
  rintro rfl
  unfold Blk at h h'
  rw [h] at h'
  injection h' with h'
  injection h' with _ h'
  exact ht h'
theorem only_deep {w w1 : World} {B g : Nat} (h : Only w w1 g) (hg : B ≤ g) (hB : B ≤ w.heap.size) : Below B w w1 :=
  ⟨h.os, h.tape, h.output, h.size, fun i hi => h.block i (by omega) (fun e => by injection e; omega)⟩
theorem below_deep {w w1 : World} {B : Nat} (h : Below w.heap.size w w1) (hB : B ≤ w.heap.size) : Below B w w1 :=
  ⟨h.os, h.tape, h.output, h.size, fun i hi => h.block i (by omega)⟩
/-- All marks: the first n. -/
def allX : Nat := 18446744073709551615
theorem allX_bit (k : Nat) (h : k < 64) : allX.testBit k = true := by
  rw [show allX = 2 ^ 64 - 1 by decide, Nat.testBit_two_pow_sub_one]; simpa using h
/-- The blocks that count: all, if marks are lost. -/
def markS (n x : Nat) (l : Bool) : List Bool := bitsS n (if l then allX else x)
theorem marks_all (n x : Nat) (hn : n ≤ 64) : putV (putV [] [⟨0, (n : Int)⟩]) (spansOf (bitsS n x)) = spansOf (bitsS n allX) := by
  obtain ⟨a, b⟩ := putV_nil [⟨0, (n : Int)⟩]
  obtain ⟨c, d⟩ := putV_spec (spansOf (bitsS n x)) _ a
  refine c.ext (spansOf_tidy _) (fun j => ?_)
  rw [d, b, wmem_tidy (spansOf_tidy _), bits_mem, bits_mem]
  unfold wmem inSp wh
  simp only [List.mem_singleton, exists_eq_left]
  constructor
  · rintro (⟨h1, h2⟩ | ⟨h1, h2, h3, h4⟩)
    · exact ⟨by omega, by omega, by omega, allX_bit _ (by omega)⟩
    · exact ⟨h1, h2, h3, allX_bit _ (by omega)⟩
  · rintro ⟨h1, h2, h3, h4⟩
    exact .inl ⟨by omega, by omega⟩
theorem marks_some (n x : Nat) : putV [] (spansOf (bitsS n x)) = spansOf (bitsS n x) := by
  obtain ⟨a, b⟩ := putV_nil (spansOf (bitsS n x))
  exact a.ext (spansOf_tidy _) (fun j => by rw [b, wmem_tidy (spansOf_tidy _)])
set_option maxRecDepth 100000 in
set_option maxHeartbeats 800000 in
theorem marks_runs (g n x : Nat) (l : Bool) (hn : n ≤ 64) (hx : x < 18446744073709551616) (w : World) (hd : DirtAt w g n x) :
    Calls Try.prog 88 #[.agg #[ptr g, .bool l]] w fun e w' => ∃ gr, e = .returned (ptrR gr) ∧ w.heap.size ≤ gr ∧ RunsAt w' w.heap.size gr (spansOf (markS n x l)) ∧ Below w.heap.size w w' := by
  have HD := Aside0.mk hd
  clear hd
  go_enter Try.func88, Try.ntmps88
  go_wp2_with fail
  refine (runs_of [] none 0 _ (C_noneR _)).mono ?_
  rintro e w1 ⟨rfl, hr, hB⟩
  have HB1 := Aside0.mk (below_step (below_alloc (Below.refl _ _) _) hB)
  have HR1 : Aside0 (RunsAt w1 w.heap.size (w.heap.size + 1) []) := ⟨by have := hr.lower (base' := w.heap.size) (by simp); have h2 : RunsAt w1 w.heap.size (w.heap.size + 1) (putV [] []) := (by simpa using this); exact h2⟩
  have HM1 : Aside0 (Blk w1 w.heap.size 107 #[ptr g, .bool l]) := ⟨(Blk.new w _ _).keep hB⟩
  rw [show (w.alloc (.cells #[ptr g, .bool l] 107)).heap.size = w.heap.size + 1 by simp]
  have c0 := HM1.out.cell (i := 0) rfl
  have c1 := HM1.out.cell (i := 1) rfl
  clear hr hB
  cases l
  · go_wp2_with fail
    refine (dirt_runs g n x hn hx _ (HD.out.keep HB1.out)).mono ?_
    rintro e w2 ⟨rfl, hr, hB⟩
    have HB2 := Aside0.mk (below_step HB1.out hB)
    have HR2 := Aside0.mk (HR1.out.keep hB)
    have HS2 := Aside0.mk hr
    clear hr hB c0 c1 HR1
    generalize w1.heap.size = g2 at *
    go_wp2_with fail
    refine (runs_all g2 g2 _ (by have := (spansOf_tidy (bitsS n x)).length (by decide); omega) w2 HS2.out).mono ?_
    rintro e w3 ⟨v, rfl, ho, hB⟩
    obtain ⟨A, c, rfl, _, hC, _⟩ := ho.reads
    have HB3 := Aside0.mk (below_step HB2.out hB)
    have HR3 := Aside0.mk (HR2.out.keep hB)
    have HC3 := Aside0.mk hC
    have Off3 := Aside0.mk (off_row ho HR2.out.lt)
    clear hB ho hC
    go_wp2_with fail
    refine (runs_put w.heap.size (w.heap.size + 1) [] _ A c w3 trivial HR3.out HB3.out.size HC3.out Off3.out).mono ?_
    rintro e w4 ⟨rfl, hr, ho⟩
    rw [marks_some] at hr
    have HB4 := Aside0.mk (below_only HB3.out ho (by omega))
    have HR4 := Aside0.mk hr
    clear hr ho
    generalize sumN (putV [] (spansOf (bitsS n x))) - sumN [] = z at *
    go_wp2_with fail
    go_ret
    exact ⟨_, rfl, by omega, HR4.out, HB4.out⟩
  · go_wp2_with fail
    refine (dirt_blocks g n x _ (HD.out.keep HB1.out)).mono ?_
    rintro e w2 ⟨rfl, hB⟩
    have HB2 := Aside0.mk (below_step HB1.out hB)
    have HR2 := Aside0.mk (HR1.out.keep hB)
    have HM2 := Aside0.mk (HM1.out.keep hB)
    clear hB HB1 HR1 HM1 c0 c1
    go_wp2_with fail
    refine (runs_put w.heap.size (w.heap.size + 1) [] [⟨0, (n : Int)⟩] (some ⟨w2.heap.size, 0, none⟩) 1 _ trivial (HR2.out.keep (below_alloc (Below.refl _ _) _)) (below_size (below_alloc HB2.out _)) (C_lit w2 [⟨0, (n : Int)⟩] (by simp) #[.int .i64 0, .int .i64 (n : Int)] rfl) (fun _ a ha => by injection ha with ha; subst ha; have := HR2.out.lt; simp; omega)).mono ?_
    rintro e w3 ⟨rfl, hr, ho⟩
    have HB3 := Aside0.mk (below_only (below_alloc HB2.out _) ho (by omega))
    have HR3 := Aside0.mk hr
    have HM3 := Aside0.mk ((HM2.out.alloc (.cells #[.int .i64 0, .int .i64 (n : Int)] 31)).only ho (by omega))
    have c0 := HM3.out.cell (i := 0) rfl
    clear hr ho HB2 HR2 HM2
    generalize sumN (putV [] [⟨0, (n : Int)⟩]) - sumN [] = z at *
    go_wp2_with fail
    refine (dirt_runs g n x hn hx _ (HD.out.keep HB3.out)).mono ?_
    rintro e w4 ⟨rfl, hr, hB⟩
    have HB4 := Aside0.mk (below_step HB3.out hB)
    have HR4 := Aside0.mk (HR3.out.keep hB)
    have HS4 := Aside0.mk hr
    clear hr hB c0
    generalize w3.heap.size = g2 at *
    go_wp2_with fail
    refine (runs_all g2 g2 _ (by have := (spansOf_tidy (bitsS n x)).length (by decide); omega) w4 HS4.out).mono ?_
    rintro e w5 ⟨v, rfl, ho, hB⟩
    obtain ⟨A, c, rfl, _, hC, _⟩ := ho.reads
    have HB5 := Aside0.mk (below_step HB4.out hB)
    have HR5 := Aside0.mk (HR4.out.keep hB)
    have HC5 := Aside0.mk hC
    have Off5 := Aside0.mk (off_row ho HR4.out.lt)
    have TT := Aside0.mk (putV_nil [⟨0, (n : Int)⟩]).1
    clear hB ho hC
    go_wp2_with fail
    refine (runs_put w.heap.size (w.heap.size + 1) _ _ A c w5 TT.out HR5.out HB5.out.size HC5.out Off5.out).mono ?_
    rintro e w6 ⟨rfl, hr, ho⟩
    rw [marks_all n x hn] at hr
    have HB6 := Aside0.mk (below_only HB5.out ho (by omega))
    have HR6 := Aside0.mk hr
    clear hr ho
    generalize sumN (putV (putV [] [⟨0, (n : Int)⟩]) (spansOf (bitsS n x))) - sumN (putV [] [⟨0, (n : Int)⟩]) = z at *
    go_wp2_with fail
    go_ret
    exact ⟨_, rfl, by omega, HR6.out, HB6.out⟩
/-- A Track of n blocks: the marks of now, the frozen ones, whether they are lost, whether a backup goes on. -/
def TrackAt (w : World) (base gt n x1 x2 : Nat) (l1 l2 b : Bool) : Prop := ∃ g1 g2, base ≤ gt ∧ base ≤ g1 ∧ base ≤ g2 ∧ g1 ≠ g2 ∧ Blk w gt 109 #[ptr g1, .bool l1, ptr g2, .bool l2, .bool b] ∧ DirtAt w g1 n x1 ∧ DirtAt w g2 n x2
section
variable {w w1 : World} {base gt n x1 x2 : Nat} {l1 l2 b : Bool}
theorem TrackAt.keep (h : TrackAt w base gt n x1 x2 l1 l2 b) (hB : Below w.heap.size w w1) : TrackAt w1 base gt n x1 x2 l1 l2 b := by
  obtain ⟨g1, g2, h1, h2, h3, h4, ht, d1, d2⟩ := h
  exact ⟨g1, g2, h1, h2, h3, h4, ht.keep hB, d1.keep hB, d2.keep hB⟩
theorem TrackAt.onlyR {g' base' : Nat} {l' : List S31} (h : TrackAt w base gt n x1 x2 l1 l2 b) (ho : Only w w1 g') (hb : RunsAt w base' g' l') : TrackAt w1 base gt n x1 x2 l1 l2 b := by
  obtain ⟨g1, g2, h1, h2, h3, h4, ht, d1, d2⟩ := h
  obtain ⟨v, hk, _⟩ := hb
  exact ⟨g1, g2, h1, h2, h3, h4, ht.only ho (ht.ne hk (by decide)), d1.only ho (d1.ne hk (by decide)), d2.only ho (d2.ne hk (by decide))⟩
theorem TrackAt.onlyB {g' t : Nat} {cs : Array Value} (h : TrackAt w base gt n x1 x2 l1 l2 b) (ho : Only w w1 g') (hb : Blk w g' t cs) (t1 : 109 ≠ t) (t2 : 80 ≠ t) : TrackAt w1 base gt n x1 x2 l1 l2 b := by
  obtain ⟨g1, g2, h1, h2, h3, h4, ht, d1, d2⟩ := h
  exact ⟨g1, g2, h1, h2, h3, h4, ht.only ho (ht.ne hb t1), d1.only ho (d1.ne hb t2), d2.only ho (d2.ne hb t2)⟩
theorem TrackAt.le (h : TrackAt w base gt n x1 x2 l1 l2 b) : base ≤ w.heap.size := by
  obtain ⟨g1, g2, h1, h2, h3, h4, ht, d1, d2⟩ := h
  have := ht.lt
  omega
end
set_option maxRecDepth 100000 in
theorem track_none (base gt n x1 x2 : Nat) (l1 l2 b : Bool) (w : World) (h : TrackAt w base gt n x1 x2 l1 l2 b) :
    Calls Try.prog 87 #[ptr gt] w fun e w' => e = .returned (.bool false) ∧ Below w.heap.size w w' := by
  obtain ⟨g1, g2, h1, h2, h3, h4, ht, d1, d2⟩ := h
  have c0 := ht.cell (i := 0) rfl
  clear ht d1 d2
  go_enter Try.func87, Try.ntmps87
  go_wp2_with fail
  go_ret
  exact ⟨rfl, Below.refl _ _⟩
set_option maxRecDepth 100000 in
theorem track_none_nil (w : World) :
    Calls Try.prog 87 #[.pointer none] w fun e w' => e = .returned (.bool true) ∧ Below w.heap.size w w' := by
  go_enter Try.func87, Try.ntmps87
  go_wp2_with fail
  go_ret
  exact ⟨rfl, Below.refl _ _⟩
set_option maxRecDepth 100000 in
theorem track_new (n : Nat) (h1 : 1 ≤ n) (h2 : n ≤ 64) (w : World) :
    Calls Try.prog 36 #[.int .i64 (n : Int)] w fun e w' => ∃ gt, e = .returned (.tuple #[ptr gt, .int .i64 0]) ∧ TrackAt w' w.heap.size gt n 0 0 true false false ∧ Below w.heap.size w w' := by
  have i1 : (1 : Int) ≤ (n : Int) := by omega
  have i2 : (n : Int) ≤ 64 := by omega
  go_enter Try.func36, Try.ntmps36
  go_wp2_with fail
  refine (dirt_new (n : Int) _).mono ?_
  rintro e w1 ⟨rfl, hd, hB⟩
  rw [show (min (max (n : Int) 0) 64).toNat = n by omega] at hd
  have HB1 := Aside0.mk hB
  have HD1 := Aside0.mk hd
  clear hB hd
  go_wp2_with fail
  refine (dirt_new (n : Int) _).mono ?_
  rintro e w2 ⟨rfl, hd, hB⟩
  rw [show (min (max (n : Int) 0) 64).toNat = n by omega] at hd
  have HB2 := Aside0.mk (below_step HB1.out hB)
  have HD2 := Aside0.mk hd
  have HD3 := Aside0.mk (HD1.out.keep hB)
  have Hg : Aside0 (w.heap.size < w1.heap.size) := ⟨HD1.out.lt⟩
  clear hB hd
  go_wp2_with fail
  go_ret2
  exact ⟨_, rfl, ⟨_, _, HB2.out.size, Nat.le_refl _, HB1.out.size, by have := Hg.out; omega, Blk.new _ _ _, HD3.out.alloc _, HD2.out.alloc _⟩, below_alloc HB2.out _⟩
set_option maxRecDepth 100000 in
theorem track_new_bad (n : Int) (h : n < 1 ∨ 64 < n) (w : World) :
    Calls Try.prog 36 #[.int .i64 n] w fun e w' => e = .returned (.tuple #[.pointer none, .int .i64 1]) ∧ Below w.heap.size w w' := by
  by_cases h1 : n < 1
  · clear h
    go_enter Try.func36, Try.ntmps36
    go_wp2_with fail
    go_ret2
    exact ⟨rfl, Below.refl _ _⟩
  · have h2 : 64 < n := by omega
    clear h
    go_enter Try.func36, Try.ntmps36
    go_wp2_with fail
    go_ret2
    exact ⟨rfl, Below.refl _ _⟩
end Go.Proofs.Ytffemlfdhkndiaa.Hand
end
section
namespace Go.Proofs.Ytffemlfdhkndiaa.Hand
open Go.RowKit Go.Proofs.YtffemlfdhkndiaaW.PrintWords Go.Proofs.YtffemlfdhkndiaaW.PrintLast Go.Proofs.YtffemlfdhkndiaaW.PrintMore Go.Proofs.Ytffemlfdhkndiaa.A Go.Proofs.Ytffemlfdhkndiaa.Bits
set_option linter.unusedVariables false
set_option linter.unusedSimpArgs false
attribute [local go_sem] max2_int min2_int max_two min_two max_three min_three max_four min_four
/-- A track's own blocks, and new ones, have turned. -/
def Deep (B : Nat) (w w1 : World) : Prop := Below B w w1 ∧ ∀ g t cs, t ≠ 109 → t ≠ 80 → Blk w g t cs → Blk w1 g t cs
theorem deep_step {B : Nat} {w W W2 : World} (h : Below B w W) (hB : B ≤ w.heap.size) (k : Below W.heap.size W W2) : Below B w W2 := below_then h (Nat.le_trans hB h.size) k
section
variable {B : Nat} {w W W2 : World}
theorem Deep.of (h : Below w.heap.size w W) (hB : B ≤ w.heap.size) : Deep B w W := ⟨below_deep h hB, fun g t cs _ _ hb => hb.keep h⟩
theorem Deep.trans (h : Deep B w W) (k : Deep B W W2) : Deep B w W2 := ⟨h.1.trans k.1, fun g t cs a b c => k.2 g t cs a b (h.2 g t cs a b c)⟩
theorem Deep.step (h : Deep B w W) (hB : B ≤ w.heap.size) (k : Below W.heap.size W W2) : Deep B w W2 := ⟨deep_step h.1 hB k, fun g t cs a b c => (h.2 g t cs a b c).keep k⟩
theorem Deep.set {g t : Nat} {cs : Array Value} (h : Deep B w W) (hg : B ≤ g) (hb : Blk W g t cs) (ht : t = 109 ∨ t = 80) (j : Nat) (u : Value) : Deep B w (W.setCell ⟨g, j, none⟩ u) :=
  ⟨h.1.setCell hg u, fun g' t' cs' a b c => (h.2 g' t' cs' a b c).far (p := ⟨g, j, none⟩) ((h.2 g' t' cs' a b c).ne hb (by rcases ht with rfl | rfl <;> assumption)) u⟩
theorem Deep.only {g t : Nat} {cs : Array Value} (h : Deep B w W) (hB : B ≤ w.heap.size) (hg : B ≤ g) (hb : Blk W g t cs) (ht : t = 109 ∨ t = 80) (ho : Only W W2 g) : Deep B w W2 :=
  ⟨h.1.trans (only_deep ho hg (Nat.le_trans hB h.1.size)), fun g' t' cs' a b c => (h.2 g' t' cs' a b c).only ho ((h.2 g' t' cs' a b c).ne hb (by rcases ht with rfl | rfl <;> assumption))⟩
theorem Blk.deep {g t : Nat} {cs : Array Value} (h : Blk w g t cs) (hd : Deep B w W) (h1 : t ≠ 109) (h2 : t ≠ 80) : Blk W g t cs := hd.2 g t cs h1 h2 h
theorem RunsAt.deep {base g : Nat} {l : List S31} (h : RunsAt w base g l) (hd : Deep B w W) : RunsAt W base g l := by
  obtain ⟨v, hk, ho⟩ := h
  refine ⟨v, hk.deep hd (by decide) (by decide), own_move ho (fun k hv => ?_)⟩
  obtain ⟨cells, hc⟩ := own_typed ho k hv
  have hb : Blk w k 31 cells := hc
  exact (hb.deep hd (by decide) (by decide)).trans hc.symm
end
set_option maxRecDepth 100000 in
set_option maxHeartbeats 800000 in
theorem track_lost (base gt n x1 x2 : Nat) (l1 l2 b : Bool) (w : World) (h : TrackAt w base gt n x1 x2 l1 l2 b) :
    Calls Try.prog 40 #[ptr gt] w fun e w' => e = .returned (.bool l1) ∧ Below w.heap.size w w' := by
  have HL := Aside0.mk h.le
  have HN := Aside0.mk (track_none base gt n x1 x2 l1 l2 b w h)
  obtain ⟨g1, g2, h1, h2, h3, h4, ht, d1, d2⟩ := h
  have HT := Aside0.mk ht
  have HD1 := Aside0.mk d1
  have HD2 := Aside0.mk d2
  have N1 : Aside0 (g1 ≠ gt) := ⟨d1.ne ht (by decide)⟩
  have N2 : Aside0 (g2 ≠ gt) := ⟨d2.ne ht (by decide)⟩
  have HH : Aside0 (base ≤ gt ∧ base ≤ g1 ∧ base ≤ g2 ∧ g1 ≠ g2) := ⟨⟨h1, h2, h3, h4⟩⟩
  clear ht d1 d2 h1 h2 h3 h4
  go_enter Try.func40, Try.ntmps40
  go_wp2_with fail
  refine HN.out.mono ?_
  rintro e w1 ⟨rfl, hB⟩
  have HB1 := Aside0.mk hB
  have HT1 := Aside0.mk (HT.out.keep hB)
  have E1 := Aside0.mk (HD1.out.keep hB)
  have E2 := Aside0.mk (HD2.out.keep hB)
  clear hB HN HT HD1 HD2
  have c1 := HT1.out.cell (i := 1) rfl
  go_wp2_with fail
  go_ret
  exact ⟨rfl, HB1.out⟩
set_option maxRecDepth 100000 in
set_option maxHeartbeats 800000 in
theorem track_busy (base gt n x1 x2 : Nat) (l1 l2 b : Bool) (w : World) (h : TrackAt w base gt n x1 x2 l1 l2 b) :
    Calls Try.prog 44 #[ptr gt] w fun e w' => e = .returned (.bool b) ∧ Below w.heap.size w w' := by
  have HL := Aside0.mk h.le
  have HN := Aside0.mk (track_none base gt n x1 x2 l1 l2 b w h)
  obtain ⟨g1, g2, h1, h2, h3, h4, ht, d1, d2⟩ := h
  have HT := Aside0.mk ht
  have HD1 := Aside0.mk d1
  have HD2 := Aside0.mk d2
  have N1 : Aside0 (g1 ≠ gt) := ⟨d1.ne ht (by decide)⟩
  have N2 : Aside0 (g2 ≠ gt) := ⟨d2.ne ht (by decide)⟩
  have HH : Aside0 (base ≤ gt ∧ base ≤ g1 ∧ base ≤ g2 ∧ g1 ≠ g2) := ⟨⟨h1, h2, h3, h4⟩⟩
  clear ht d1 d2 h1 h2 h3 h4
  have c4 := HT.out.cell (i := 4) rfl
  go_enter Try.func44, Try.ntmps44
  go_wp2_with fail
  go_ret
  exact ⟨rfl, Below.refl _ _⟩
set_option maxRecDepth 100000 in
set_option maxHeartbeats 800000 in
theorem track_lose (base gt n x1 x2 : Nat) (l1 l2 b : Bool) (w : World) (h : TrackAt w base gt n x1 x2 l1 l2 b) :
    Calls Try.prog 46 #[ptr gt] w fun e w' => e = .returned (.tuple #[]) ∧ TrackAt w' base gt n x1 x2 true l2 b ∧ Deep base w w' := by
  have HL := Aside0.mk h.le
  have HN := Aside0.mk (track_none base gt n x1 x2 l1 l2 b w h)
  obtain ⟨g1, g2, h1, h2, h3, h4, ht, d1, d2⟩ := h
  have HT := Aside0.mk ht
  have HD1 := Aside0.mk d1
  have HD2 := Aside0.mk d2
  have N1 : Aside0 (g1 ≠ gt) := ⟨d1.ne ht (by decide)⟩
  have N2 : Aside0 (g2 ≠ gt) := ⟨d2.ne ht (by decide)⟩
  have HH : Aside0 (base ≤ gt ∧ base ≤ g1 ∧ base ≤ g2 ∧ g1 ≠ g2) := ⟨⟨h1, h2, h3, h4⟩⟩
  clear ht d1 d2 h1 h2 h3 h4
  go_enter Try.func46, Try.ntmps46
  go_wp2_with fail
  refine HN.out.mono ?_
  rintro e w1 ⟨rfl, hB⟩
  have HB1 := Aside0.mk hB
  have HT1 := Aside0.mk (HT.out.keep hB)
  have E1 := Aside0.mk (HD1.out.keep hB)
  have E2 := Aside0.mk (HD2.out.keep hB)
  clear hB HN HT HD1 HD2
  have c1 := HT1.out.cell (i := 1) rfl
  have f1 := HT1.out.frozen 1
  go_wp2_with fail
  go_end0
  obtain ⟨h1, h2, h3, h4⟩ := HH.out
  exact ⟨rfl, ⟨g1, g2, h1, h2, h3, h4, HT1.out.set_ 1 _, E1.out.far N1.out _, E2.out.far N2.out _⟩, (Deep.of HB1.out HL.out).set h1 HT1.out (.inl rfl) 1 _⟩
set_option maxRecDepth 100000 in
set_option maxHeartbeats 800000 in
theorem track_now (base gt n x1 x2 : Nat) (l1 l2 b : Bool) (w : World) (h : TrackAt w base gt n x1 x2 l1 l2 b) (hn : n ≤ 64) (hx : x1 < 18446744073709551616) :
    Calls Try.prog 42 #[ptr gt] w fun e w' => ∃ gr, e = .returned (ptrR gr) ∧ w.heap.size ≤ gr ∧ RunsAt w' w.heap.size gr (spansOf (markS n x1 l1)) ∧ Below w.heap.size w w' := by
  have HL := Aside0.mk h.le
  have HN := Aside0.mk (track_none base gt n x1 x2 l1 l2 b w h)
  obtain ⟨g1, g2, h1, h2, h3, h4, ht, d1, d2⟩ := h
  have HT := Aside0.mk ht
  have HD1 := Aside0.mk d1
  have HD2 := Aside0.mk d2
  have N1 : Aside0 (g1 ≠ gt) := ⟨d1.ne ht (by decide)⟩
  have N2 : Aside0 (g2 ≠ gt) := ⟨d2.ne ht (by decide)⟩
  have HH : Aside0 (base ≤ gt ∧ base ≤ g1 ∧ base ≤ g2 ∧ g1 ≠ g2) := ⟨⟨h1, h2, h3, h4⟩⟩
  clear ht d1 d2 h1 h2 h3 h4
  go_enter Try.func42, Try.ntmps42
  go_wp2_with fail
  refine HN.out.mono ?_
  rintro e w1 ⟨rfl, hB⟩
  have HB1 := Aside0.mk hB
  have HT1 := Aside0.mk (HT.out.keep hB)
  have E1 := Aside0.mk (HD1.out.keep hB)
  have E2 := Aside0.mk (HD2.out.keep hB)
  clear hB HN HT HD1 HD2
  have c0 := HT1.out.cell (i := 0) rfl
  have c1 := HT1.out.cell (i := 1) rfl
  go_wp2_with fail
  refine (marks_runs g1 n x1 l1 hn hx _ E1.out).mono ?_
  rintro e w2 ⟨gr, rfl, hg, hr, hB⟩
  have HB2 := Aside0.mk (below_step HB1.out hB)
  have HR := Aside0.mk (hr.lower HB1.out.size)
  have HG : Aside0 (w.heap.size ≤ gr) := ⟨Nat.le_trans HB1.out.size hg⟩
  clear hB hr hg
  go_wp2_with fail
  go_ret
  exact ⟨_, rfl, HG.out, HR.out, HB2.out⟩
set_option maxRecDepth 100000 in
set_option maxHeartbeats 800000 in
theorem track_frozen (base gt n x1 x2 : Nat) (l1 l2 b : Bool) (w : World) (h : TrackAt w base gt n x1 x2 l1 l2 b) (hn : n ≤ 64) (hx : x2 < 18446744073709551616) :
    Calls Try.prog 38 #[ptr gt] w fun e w' => ∃ gr, e = .returned (ptrR gr) ∧ w.heap.size ≤ gr ∧ RunsAt w' w.heap.size gr (if b then spansOf (markS n x2 l2) else []) ∧ Below w.heap.size w w' := by
  have HL := Aside0.mk h.le
  have HN := Aside0.mk (track_none base gt n x1 x2 l1 l2 b w h)
  obtain ⟨g1, g2, h1, h2, h3, h4, ht, d1, d2⟩ := h
  have HT := Aside0.mk ht
  have HD1 := Aside0.mk d1
  have HD2 := Aside0.mk d2
  have N1 : Aside0 (g1 ≠ gt) := ⟨d1.ne ht (by decide)⟩
  have N2 : Aside0 (g2 ≠ gt) := ⟨d2.ne ht (by decide)⟩
  have HH : Aside0 (base ≤ gt ∧ base ≤ g1 ∧ base ≤ g2 ∧ g1 ≠ g2) := ⟨⟨h1, h2, h3, h4⟩⟩
  clear ht d1 d2 h1 h2 h3 h4
  cases b
  · skip
    go_enter Try.func38, Try.ntmps38
    go_wp2_with fail
    refine HN.out.mono ?_
    rintro e w1 ⟨rfl, hB⟩
    have HB1 := Aside0.mk hB
    have HT1 := Aside0.mk (HT.out.keep hB)
    have E1 := Aside0.mk (HD1.out.keep hB)
    have E2 := Aside0.mk (HD2.out.keep hB)
    clear hB HN HT HD1 HD2
    have c4 := HT1.out.cell (i := 4) rfl
    go_wp2_with fail
    refine (runs_of [] none 0 _ (C_noneR _)).mono ?_
    rintro e w2 ⟨rfl, hr, hB⟩
    have HB2 := Aside0.mk (below_step HB1.out hB)
    have HR := Aside0.mk (hr.lower HB1.out.size)
    clear hB hr
    go_wp2_with fail
    go_ret
    exact ⟨_, rfl, HB1.out.size, HR.out, HB2.out⟩
  · skip
    go_enter Try.func38, Try.ntmps38
    go_wp2_with fail
    refine HN.out.mono ?_
    rintro e w1 ⟨rfl, hB⟩
    have HB1 := Aside0.mk hB
    have HT1 := Aside0.mk (HT.out.keep hB)
    have E1 := Aside0.mk (HD1.out.keep hB)
    have E2 := Aside0.mk (HD2.out.keep hB)
    clear hB HN HT HD1 HD2
    have c2 := HT1.out.cell (i := 2) rfl
    have c3 := HT1.out.cell (i := 3) rfl
    have c4 := HT1.out.cell (i := 4) rfl
    go_wp2_with fail
    refine (marks_runs g2 n x2 l2 hn hx _ E2.out).mono ?_
    rintro e w2 ⟨gr, rfl, hg, hr, hB⟩
    have HB2 := Aside0.mk (below_step HB1.out hB)
    have HR := Aside0.mk (hr.lower HB1.out.size)
    have HG : Aside0 (w.heap.size ≤ gr) := ⟨Nat.le_trans HB1.out.size hg⟩
    clear hB hr hg
    go_wp2_with fail
    go_ret
    exact ⟨_, rfl, HG.out, HR.out, HB2.out⟩
set_option maxRecDepth 100000 in
set_option maxHeartbeats 800000 in
theorem track_idle (base gt n x1 x2 : Nat) (l1 l2 b : Bool) (w : World) (h : TrackAt w base gt n x1 x2 l1 l2 b) :
    Calls Try.prog 89 #[ptr gt] w fun e w' => e = .returned (.int .i64 (if b then 0 else 4)) ∧ Below w.heap.size w w' := by
  have HL := Aside0.mk h.le
  have HN := Aside0.mk (track_none base gt n x1 x2 l1 l2 b w h)
  obtain ⟨g1, g2, h1, h2, h3, h4, ht, d1, d2⟩ := h
  have HT := Aside0.mk ht
  have HD1 := Aside0.mk d1
  have HD2 := Aside0.mk d2
  have N1 : Aside0 (g1 ≠ gt) := ⟨d1.ne ht (by decide)⟩
  have N2 : Aside0 (g2 ≠ gt) := ⟨d2.ne ht (by decide)⟩
  have HH : Aside0 (base ≤ gt ∧ base ≤ g1 ∧ base ≤ g2 ∧ g1 ≠ g2) := ⟨⟨h1, h2, h3, h4⟩⟩
  clear ht d1 d2 h1 h2 h3 h4
  go_enter Try.func89, Try.ntmps89
  go_wp2_with fail
  refine HN.out.mono ?_
  rintro e w1 ⟨rfl, hB⟩
  have HB1 := Aside0.mk hB
  have HT1 := Aside0.mk (HT.out.keep hB)
  have E1 := Aside0.mk (HD1.out.keep hB)
  have E2 := Aside0.mk (HD2.out.keep hB)
  clear hB HN HT HD1 HD2
  have c4 := HT1.out.cell (i := 4) rfl
  cases b
  · go_wp2_with fail
    go_ret
    exact ⟨rfl, HB1.out⟩
  · go_wp2_with fail
    go_ret
    exact ⟨rfl, HB1.out⟩
set_option maxRecDepth 100000 in
set_option maxHeartbeats 800000 in
theorem track_mark (base gt n x1 x2 : Nat) (l1 l2 b : Bool) (w : World) (h : TrackAt w base gt n x1 x2 l1 l2 b) (F M : Int) (hn : n ≤ 64) (hx : x1 < 18446744073709551616) :
    Calls Try.prog 41 #[ptr gt, .agg #[.int .i64 F, .int .i64 M]] w fun e w' => e = .returned (.int .i64 ((cnt (minus (markV n F M) x1) : Nat) : Int)) ∧ TrackAt w' base gt n (x1 ||| markV n F M) x2 l1 l2 b ∧ Deep base w w' := by
  have HL := Aside0.mk h.le
  have HN := Aside0.mk ((fun W (hB : Below w.heap.size w W) => track_none base gt n x1 x2 l1 l2 b W (h.keep hB)))
  obtain ⟨g1, g2, h1, h2, h3, h4, ht, d1, d2⟩ := h
  have HT := Aside0.mk ht
  have HD1 := Aside0.mk d1
  have HD2 := Aside0.mk d2
  have N1 : Aside0 (g1 ≠ gt) := ⟨d1.ne ht (by decide)⟩
  have N2 : Aside0 (g2 ≠ gt) := ⟨d2.ne ht (by decide)⟩
  have HH : Aside0 (base ≤ gt ∧ base ≤ g1 ∧ base ≤ g2 ∧ g1 ≠ g2) := ⟨⟨h1, h2, h3, h4⟩⟩
  clear ht d1 d2 h1 h2 h3 h4
  go_enter Try.func41, Try.ntmps41
  go_wp2_with fail
  refine (HN.out _ (below_alloc (Below.refl _ _) _)).mono ?_
  rintro e w1 ⟨rfl, hB⟩
  have HB1 := Aside0.mk (below_step (below_alloc (Below.refl _ _) _) hB)
  have HX1 : Aside0 (Blk w1 w.heap.size 31 #[.int .i64 F, .int .i64 M]) := ⟨(Blk.new w _ _).keep hB⟩
  have HT1 := Aside0.mk ((HT.out.alloc _).keep hB)
  have E1 := Aside0.mk ((HD1.out.alloc _).keep hB)
  have E2 := Aside0.mk ((HD2.out.alloc _).keep hB)
  have c0 := HT1.out.cell (i := 0) rfl
  obtain ⟨gb, hgb⟩ : ∃ n, n = w.heap.size := ⟨_, rfl⟩
  rw [← hgb] at HX1
  rw [← hgb]
  have b0 := HX1.out.cell (i := 0) rfl
  have b1 := HX1.out.cell (i := 1) rfl
  clear hB HN HT HD1 HD2 hgb HX1
  go_wp2_with fail
  refine start_ (n := 8) (S := fun w' => w'.cell? ⟨gt, 0, none⟩ = some (ptr g1) ∧ w'.cell? ⟨gb, 0, none⟩ = some (.int .i64 F) ∧ w'.cell? ⟨gb, 1, none⟩ = some (.int .i64 M) ∧ Below w.heap.size w w' ∧ DirtAt w' g1 n x1 ∧ Blk w' gt 109 #[ptr g1, .bool l1, ptr g2, .bool l2, .bool b] ∧ DirtAt w' g2 n x2) (ds := [6]) #[false, false, false, false, false, false, false, false] (by kernel_rfl) rfl rfl ⟨c0, b0, b1, (below_drew1 HB1.out), (Blk.drew E1.out), (Blk.drew HT1.out), (Blk.drew E2.out)⟩ (fun hHeld => ?_)
  refine pure_ (i := 0) (N := some 7) (v := ?_) (a' := ?_) #[true, false, false, false, false, false, false, false] rfl rfl (by kernel_rfl) (fun _ _ _ h => h) (Or.inl ⟨by rfl, ?_⟩) ?_ ?_
  rotate_left
  · intro w'
    go_simp
    with_reducible rfl
  rotate_left
  · simp only [Act.put, List.setIfInBounds_toArray, List.set_cons_zero, List.set_cons_succ, i64_w, i32_w]
    rfl
  refine pure_ (i := 1) (N := some 8) (v := ?_) (a' := ?_) #[true, true, false, false, false, false, false, false] rfl rfl (by kernel_rfl) (fun _ _ _ h => h) (Or.inl ⟨by rfl, ?_⟩) ?_ ?_
  rotate_left
  · intro w'
    go_simp
    with_reducible rfl
  rotate_left
  · simp only [Act.put, List.setIfInBounds_toArray, List.set_cons_zero, List.set_cons_succ, i64_w, i32_w]
    rfl
  refine pure_ (i := 2) (N := some 9) (v := ?_) (a' := ?_) #[true, true, true, false, false, false, false, false] rfl rfl (by kernel_rfl) (fun _ _ _ h => h) (Or.inl ⟨by rfl, ?_⟩) ?_ ?_
  rotate_left
  · intro w'
    go_simp
    with_reducible rfl
  rotate_left
  · simp only [Act.put, List.setIfInBounds_toArray, List.set_cons_zero, List.set_cons_succ, i64_w, i32_w]
    rfl
  refine pure_ (i := 3) (N := some 10) (v := ?_) (a' := ?_) #[true, true, true, true, false, false, false, false] rfl rfl (by kernel_rfl) (fun _ _ _ h => h) (Or.inl ⟨by rfl, ?_⟩) ?_ ?_
  rotate_left
  · intro w'
    go_simp
    with_reducible rfl
  rotate_left
  · simp only [Act.put, List.setIfInBounds_toArray, List.set_cons_zero, List.set_cons_succ, i64_w, i32_w]
    rfl
  refine take_ (i := 4) (N := some 11) (v := ?_) (a' := ?_) #[true, true, true, true, true, false, false, false] rfl rfl (by kernel_rfl) (fun _ _ _ h => h) (Or.inl ⟨by rfl, ?_⟩) hHeld ?_ ?_
  rotate_left
  · rintro w' ⟨s0, s1, s2, s3, s4, s5, s6⟩
    go_simp
    with_reducible rfl
  rotate_left
  · simp only [Act.put, List.setIfInBounds_toArray, List.set_cons_zero, List.set_cons_succ, i64_w, i32_w]
    rfl
  refine take_ (i := 5) (N := some 12) (v := ?_) (a' := ?_) #[true, true, true, true, true, true, false, false] rfl rfl (by kernel_rfl) (fun _ _ _ h => h) (Or.inl ⟨by rfl, ?_⟩) hHeld ?_ ?_
  rotate_left
  · rintro w' ⟨s0, s1, s2, s3, s4, s5, s6⟩
    go_simp
    with_reducible rfl
  rotate_left
  · simp only [Act.put, List.setIfInBounds_toArray, List.set_cons_zero, List.set_cons_succ, i64_w, i32_w]
    rfl
  refine last_ (i := 6) (N := some 13) #[true, true, true, true, true, true, true, false] rfl rfl (by kernel_rfl) (by decide) (fun K hK => ?_)
  refine goes_ Try.func16 (by kernel_rfl) rfl #[ptr g1, .agg #[.int .i64 F, .int .i64 M]] (by rfl) rfl rfl (by simp only [List.map_toArray, List.map_cons, List.map_nil]; rfl) ?_
  with_reducible refine (dirt_mark g1 n x1 F M hn hx _ hHeld.2.2.2.2.1).mono ?_
  rintro e w2 ⟨rfl, hd, ho⟩
  refine ⟨_, rfl, ?_⟩
  have hT2 := Blk.only hHeld.2.2.2.2.2.1 ho (Ne.symm N1.out)
  have hD2 := Blk.only hHeld.2.2.2.2.2.2 ho (Ne.symm HH.out.2.2.2)
  have hO3 := (Deep.of hHeld.2.2.2.1 HL.out).only HL.out HH.out.2.1 hHeld.2.2.2.2.1 (.inr rfl) ho
  refine hK.out _ _ ?_
  clear hK K
  refine norm_ (a' := ?_) ?_ ?_
  rotate_left
  · show Act.put _ (some 13) _ = _
    simp only [Act.put, List.setIfInBounds_toArray, List.set_cons_zero, List.set_cons_succ, i64_w, i32_w]
    rfl
  refine pure_ (i := 7) (N := some 4) (v := ?_) (a' := ?_) #[true, true, true, true, true, true, true, true] rfl rfl (by kernel_rfl) (fun _ _ _ h => h) (Or.inl ⟨by rfl, ?_⟩) ?_ ?_
  rotate_left
  · intro w'
    go_simp
    with_reducible rfl
  rotate_left
  · simp only [Act.put, List.setIfInBounds_toArray, List.set_cons_zero, List.set_cons_succ, i64_w, i32_w]
    rfl
  refine done_ (by kernel_rfl) ?_
  have HO3 := Aside0.mk hO3
  have HT2 := Aside0.mk hT2
  have HD2 := Aside0.mk hD2
  have HDn := Aside0.mk hd
  clear hO3 hT2 hD2 hd ho hHeld c0 b0 b1
  generalize hz : ((cnt (minus (markV n F M) x1) : Nat) : Int) = z at *
  go_wp2_with fail
  go_ret
  obtain ⟨h1, h2, h3, h4⟩ := HH.out
  exact ⟨by rw [hz]; rfl, ⟨g1, g2, h1, h2, h3, h4, HT2.out, HDn.out, HD2.out⟩, HO3.out⟩
set_option maxRecDepth 100000 in
set_option maxHeartbeats 800000 in
theorem track_freeze (base gt n x1 x2 : Nat) (l1 l2 b : Bool) (w : World) (h : TrackAt w base gt n x1 x2 l1 l2 b) (hn : n ≤ 64) :
    Calls Try.prog 37 #[ptr gt] w fun e w' => e = .returned (.int .i64 (if b then 3 else 0)) ∧ (if b then TrackAt w' base gt n x1 x2 l1 l2 b else TrackAt w' base gt n 0 x1 false l1 true) ∧ Deep base w w' := by
  have HL := Aside0.mk h.le
  have HN := Aside0.mk (track_none base gt n x1 x2 l1 l2 b w h)
  obtain ⟨g1, g2, h1, h2, h3, h4, ht, d1, d2⟩ := h
  have HT := Aside0.mk ht
  have HD1 := Aside0.mk d1
  have HD2 := Aside0.mk d2
  have N1 : Aside0 (g1 ≠ gt) := ⟨d1.ne ht (by decide)⟩
  have N2 : Aside0 (g2 ≠ gt) := ⟨d2.ne ht (by decide)⟩
  have HH : Aside0 (base ≤ gt ∧ base ≤ g1 ∧ base ≤ g2 ∧ g1 ≠ g2) := ⟨⟨h1, h2, h3, h4⟩⟩
  clear ht d1 d2 h1 h2 h3 h4
  cases b
  · skip
    go_enter Try.func37, Try.ntmps37
    go_wp2_with fail
    refine HN.out.mono ?_
    rintro e w1 ⟨rfl, hB⟩
    have HB1 := Aside0.mk hB
    have HT1 := Aside0.mk (HT.out.keep hB)
    have E1 := Aside0.mk (HD1.out.keep hB)
    have E2 := Aside0.mk (HD2.out.keep hB)
    clear hB HN HT HD1 HD2
    have c0 := HT1.out.cell (i := 0) rfl
    have c1 := HT1.out.cell (i := 1) rfl
    have c2 := HT1.out.cell (i := 2) rfl
    have c3 := HT1.out.cell (i := 3) rfl
    have c4 := HT1.out.cell (i := 4) rfl
    have f0 := HT1.out.frozen 0
    have f1 := HT1.out.frozen 1
    have f2 := HT1.out.frozen 2
    have f3 := HT1.out.frozen 3
    have f4 := HT1.out.frozen 4
    go_wp2_with fail
    refine (dirt_blocks g1 n x1 _ (((E1.out.far N1.out _).far N1.out _).far N1.out _)).mono ?_
    rintro e w2 ⟨rfl, hB⟩
    have HT2 : Aside0 (Blk w2 gt 109 #[ptr g1, .bool l1, ptr g1, .bool l1, .bool true]) := ⟨(((HT1.out.set_ 2 _).set_ 3 _).set_ 4 _).keep hB⟩
    have E12 := Aside0.mk ((((E1.out.far N1.out _).far N1.out _).far N1.out _).keep hB)
    have HB2 := Aside0.mk (((((Deep.of HB1.out HL.out).set HH.out.1 HT1.out (.inl rfl) 2 _).set HH.out.1 (HT1.out.set_ 2 _) (.inl rfl) 3 _).set HH.out.1 ((HT1.out.set_ 2 _).set_ 3 _) (.inl rfl) 4 _).step HL.out hB)
    clear hB c0 c1 c2 c3 c4 f0 f1 f2 f3 f4 HB1 HT1 E1 E2
    go_wp2_with fail
    refine (dirt_new (n : Int) _).mono ?_
    rintro e w3 ⟨rfl, hd, hB⟩
    rw [show (min (max (n : Int) 0) 64).toNat = n by omega] at hd
    have HT3 := Aside0.mk (HT2.out.keep hB)
    have E13 := Aside0.mk (E12.out.keep hB)
    have HD3 := Aside0.mk hd
    have HB3 := Aside0.mk (HB2.out.step HL.out hB)
    have HG : Aside0 (base ≤ w2.heap.size ∧ w2.heap.size ≠ g1) := ⟨by have := HB2.out.1.size; have := HL.out; have := E12.out.lt; omega⟩
    have N3 : Aside0 (w2.heap.size ≠ gt) := ⟨hd.ne HT3.out (by decide)⟩
    have c0 := HT3.out.cell (i := 0) rfl
    have c1 := HT3.out.cell (i := 1) rfl
    have f0 := HT3.out.frozen 0
    have f1 := HT3.out.frozen 1
    clear hB hd HB2 HT2 E12
    generalize w2.heap.size = g3 at *
    go_wp2_with fail
    go_ret
    exact ⟨rfl, ⟨g3, g1, HH.out.1, HG.out.1, HH.out.2.1, HG.out.2, (HT3.out.set_ 0 _).set_ 1 _, (HD3.out.far N3.out _).far N3.out _, (E13.out.far N1.out _).far N1.out _⟩, (HB3.out.set HH.out.1 HT3.out (.inl rfl) 0 _).set HH.out.1 (HT3.out.set_ 0 _) (.inl rfl) 1 _⟩
  · skip
    go_enter Try.func37, Try.ntmps37
    go_wp2_with fail
    refine HN.out.mono ?_
    rintro e w1 ⟨rfl, hB⟩
    have HB1 := Aside0.mk hB
    have HT1 := Aside0.mk (HT.out.keep hB)
    have E1 := Aside0.mk (HD1.out.keep hB)
    have E2 := Aside0.mk (HD2.out.keep hB)
    clear hB HN HT HD1 HD2
    have c4 := HT1.out.cell (i := 4) rfl
    go_wp2_with fail
    go_ret
    obtain ⟨h1, h2, h3, h4⟩ := HH.out
    exact ⟨rfl, ⟨g1, g2, h1, h2, h3, h4, HT1.out, E1.out, E2.out⟩, Deep.of HB1.out HL.out⟩
set_option maxRecDepth 100000 in
set_option maxHeartbeats 800000 in
theorem track_end (base gt n x1 x2 : Nat) (l1 l2 b : Bool) (w : World) (h : TrackAt w base gt n x1 x2 l1 l2 b) (hn : n ≤ 64) :
    Calls Try.prog 90 #[ptr gt] w fun e w' => e = .returned (.tuple #[]) ∧ TrackAt w' base gt n x1 0 l1 false false ∧ Deep base w w' := by
  have HL := Aside0.mk h.le
  have HN := Aside0.mk (track_none base gt n x1 x2 l1 l2 b w h)
  obtain ⟨g1, g2, h1, h2, h3, h4, ht, d1, d2⟩ := h
  have HT := Aside0.mk ht
  have HD1 := Aside0.mk d1
  have HD2 := Aside0.mk d2
  have N1 : Aside0 (g1 ≠ gt) := ⟨d1.ne ht (by decide)⟩
  have N2 : Aside0 (g2 ≠ gt) := ⟨d2.ne ht (by decide)⟩
  have HH : Aside0 (base ≤ gt ∧ base ≤ g1 ∧ base ≤ g2 ∧ g1 ≠ g2) := ⟨⟨h1, h2, h3, h4⟩⟩
  clear ht d1 d2 h1 h2 h3 h4
  have c0 := HT.out.cell (i := 0) rfl
  go_enter Try.func90, Try.ntmps90
  go_wp2_with fail
  refine (dirt_blocks g1 n x1 _ HD1.out).mono ?_
  rintro e w2 ⟨rfl, hB⟩
  have HT2 := Aside0.mk (HT.out.keep hB)
  have E12 := Aside0.mk (HD1.out.keep hB)
  have HB2 := Aside0.mk (Deep.of hB HL.out)
  clear hB c0 HT HD1 HD2
  go_wp2_with fail
  refine (dirt_new (n : Int) _).mono ?_
  rintro e w3 ⟨rfl, hd, hB⟩
  rw [show (min (max (n : Int) 0) 64).toNat = n by omega] at hd
  have HT3 := Aside0.mk (HT2.out.keep hB)
  have E13 := Aside0.mk (E12.out.keep hB)
  have HD3 := Aside0.mk hd
  have HB3 := Aside0.mk (HB2.out.step HL.out hB)
  have HG : Aside0 (base ≤ w2.heap.size ∧ g1 ≠ w2.heap.size) := ⟨by have := HB2.out.1.size; have := HL.out; have := E12.out.lt; omega⟩
  have N3 : Aside0 (w2.heap.size ≠ gt) := ⟨hd.ne HT3.out (by decide)⟩
  have c2 := HT3.out.cell (i := 2) rfl
  have c3 := HT3.out.cell (i := 3) rfl
  have c4 := HT3.out.cell (i := 4) rfl
  have f2 := HT3.out.frozen 2
  have f3 := HT3.out.frozen 3
  have f4 := HT3.out.frozen 4
  clear hB hd HB2 HT2 E12
  generalize w2.heap.size = g3 at *
  go_wp2_with fail
  go_end0
  exact ⟨rfl, ⟨g1, g3, HH.out.1, HH.out.2.1, HG.out.1, HG.out.2, ((HT3.out.set_ 2 _).set_ 3 _).set_ 4 _, ((E13.out.far N1.out _).far N1.out _).far N1.out _, ((HD3.out.far N3.out _).far N3.out _).far N3.out _⟩, ((HB3.out.set HH.out.1 HT3.out (.inl rfl) 2 _).set HH.out.1 (HT3.out.set_ 2 _) (.inl rfl) 3 _).set HH.out.1 ((HT3.out.set_ 2 _).set_ 3 _) (.inl rfl) 4 _⟩
set_option maxRecDepth 100000 in
set_option maxHeartbeats 800000 in
theorem track_commit (base gt n x1 x2 : Nat) (l1 l2 b : Bool) (w : World) (h : TrackAt w base gt n x1 x2 l1 l2 b) (hn : n ≤ 64) :
    Calls Try.prog 39 #[ptr gt] w fun e w' => e = .returned (.int .i64 (if b then 0 else 4)) ∧ (if b then TrackAt w' base gt n x1 0 l1 false false else TrackAt w' base gt n x1 x2 l1 l2 b) ∧ Deep base w w' := by
  have H := Aside0.mk h
  have HL := Aside0.mk h.le
  have HI := Aside0.mk (track_idle base gt n x1 x2 l1 l2 b w h)
  clear h
  cases b
  · skip
    go_enter Try.func39, Try.ntmps39
    go_wp2_with fail
    refine HI.out.mono ?_
    rintro e w1 ⟨rfl, hB⟩
    have HB1 := Aside0.mk (Deep.of hB HL.out)
    have H1 := Aside0.mk (H.out.keep hB)
    clear hB HI H
    rw [if_neg (by decide)]
    go_wp2_with fail
    go_ret
    exact ⟨rfl, H1.out, HB1.out⟩
  · skip
    go_enter Try.func39, Try.ntmps39
    go_wp2_with fail
    refine HI.out.mono ?_
    rintro e w1 ⟨rfl, hB⟩
    have HB1 := Aside0.mk (Deep.of hB HL.out)
    have H1 := Aside0.mk (H.out.keep hB)
    clear hB HI H
    rw [if_pos trivial]
    go_wp2_with fail
    refine (track_end base gt n x1 x2 l1 l2 true w1 H1.out hn).mono ?_
    rintro e w2 ⟨rfl, ht, hB⟩
    have HB2 := Aside0.mk (HB1.out.trans hB)
    have H2 := Aside0.mk ht
    clear ht hB
    go_wp2_with fail
    go_ret
    exact ⟨rfl, H2.out, HB2.out⟩
set_option maxRecDepth 100000 in
set_option maxHeartbeats 800000 in
theorem track_back (base gt n x1 x2 : Nat) (l1 l2 b : Bool) (w : World) (h : TrackAt w base gt n x1 x2 l1 l2 b) (hn : n ≤ 64) (hx : x1 < 18446744073709551616) (hy : x2 < 18446744073709551616) :
    Calls Try.prog 45 #[ptr gt] w fun e w' => e = .returned (.int .i64 (if b then 0 else 4)) ∧ (if b then TrackAt w' base gt n (x1 ||| (x2 &&& ones 0 n)) 0 (l1 || l2) false false else TrackAt w' base gt n x1 x2 l1 l2 b) ∧ Deep base w w' := by
  have H := Aside0.mk h
  have HI := Aside0.mk (track_idle base gt n x1 x2 l1 l2 b w h)
  have HL := Aside0.mk h.le
  obtain ⟨g1, g2, h1, h2, h3, h4, ht, d1, d2⟩ := h
  have HT := Aside0.mk ht
  have HD1 := Aside0.mk d1
  have HD2 := Aside0.mk d2
  have N1 : Aside0 (g1 ≠ gt) := ⟨d1.ne ht (by decide)⟩
  have N2 : Aside0 (g2 ≠ gt) := ⟨d2.ne ht (by decide)⟩
  have HH : Aside0 (base ≤ gt ∧ base ≤ g1 ∧ base ≤ g2 ∧ g1 ≠ g2) := ⟨⟨h1, h2, h3, h4⟩⟩
  clear ht d1 d2 h1 h2 h3 h4
  cases b
  · skip
    go_enter Try.func45, Try.ntmps45
    go_wp2_with fail
    refine HI.out.mono ?_
    rintro e w1 ⟨rfl, hB⟩
    have HB1 := Aside0.mk (Deep.of hB HL.out)
    have H1 := Aside0.mk (H.out.keep hB)
    clear hB HI H
    rw [if_neg (by decide)]
    go_wp2_with fail
    go_ret
    exact ⟨rfl, H1.out, HB1.out⟩
  · skip
    go_enter Try.func45, Try.ntmps45
    go_wp2_with fail
    refine HI.out.mono ?_
    rintro e w1 ⟨rfl, hB⟩
    have HB1 := Aside0.mk hB
    have HT1 := Aside0.mk (HT.out.keep hB)
    have E1 := Aside0.mk (HD1.out.keep hB)
    have E2 := Aside0.mk (HD2.out.keep hB)
    have c0 := HT1.out.cell (i := 0) rfl
    have c2 := HT1.out.cell (i := 2) rfl
    clear hB HI H HT HD1 HD2
    rw [if_pos trivial]
    go_wp2_with fail
    refine start_ (n := 11) (S := fun w' => w'.cell? ⟨gt, 0, none⟩ = some (ptr g1) ∧ w'.cell? ⟨gt, 2, none⟩ = some (ptr g2) ∧ Below w.heap.size w w' ∧ DirtAt w' g1 n x1 ∧ Blk w' gt 109 #[ptr g1, .bool l1, ptr g2, .bool l2, .bool true] ∧ DirtAt w' g2 n x2) (ds := [10]) #[false, false, false, false, false, false, false, false, false, false, false] (by kernel_rfl) rfl rfl ⟨c0, c2, (below_drew1 HB1.out), (Blk.drew E1.out), (Blk.drew HT1.out), (Blk.drew E2.out)⟩ (fun hHeld => ?_)
    refine pure_ (i := 0) (N := some 8) (v := ?_) (a' := ?_) #[true, false, false, false, false, false, false, false, false, false, false] rfl rfl (by kernel_rfl) (fun _ _ _ h => h) (Or.inl ⟨by rfl, ?_⟩) ?_ ?_
    rotate_left
    · intro w'
      go_simp
      with_reducible rfl
    rotate_left
    · simp only [Act.put, List.setIfInBounds_toArray, List.set_cons_zero, List.set_cons_succ, i64_w, i32_w]
      rfl
    refine pure_ (i := 1) (N := some 9) (v := ?_) (a' := ?_) #[true, true, false, false, false, false, false, false, false, false, false] rfl rfl (by kernel_rfl) (fun _ _ _ h => h) (Or.inl ⟨by rfl, ?_⟩) ?_ ?_
    rotate_left
    · intro w'
      go_simp
      with_reducible rfl
    rotate_left
    · simp only [Act.put, List.setIfInBounds_toArray, List.set_cons_zero, List.set_cons_succ, i64_w, i32_w]
      rfl
    refine pure_ (i := 2) (N := some 10) (v := ?_) (a' := ?_) #[true, true, true, false, false, false, false, false, false, false, false] rfl rfl (by kernel_rfl) (fun _ _ _ h => h) (Or.inl ⟨by rfl, ?_⟩) ?_ ?_
    rotate_left
    · intro w'
      go_simp
      with_reducible rfl
    rotate_left
    · simp only [Act.put, List.setIfInBounds_toArray, List.set_cons_zero, List.set_cons_succ, i64_w, i32_w]
      rfl
    refine pure_ (i := 3) (N := some 11) (v := ?_) (a' := ?_) #[true, true, true, true, false, false, false, false, false, false, false] rfl rfl (by kernel_rfl) (fun _ _ _ h => h) (Or.inl ⟨by rfl, ?_⟩) ?_ ?_
    rotate_left
    · intro w'
      go_simp
      with_reducible rfl
    rotate_left
    · simp only [Act.put, List.setIfInBounds_toArray, List.set_cons_zero, List.set_cons_succ, i64_w, i32_w]
      rfl
    refine pure_ (i := 5) (N := some 13) (v := ?_) (a' := ?_) #[true, true, true, true, false, true, false, false, false, false, false] rfl rfl (by kernel_rfl) (fun _ _ _ h => h) (Or.inl ⟨by rfl, ?_⟩) ?_ ?_
    rotate_left
    · intro w'
      go_simp
      with_reducible rfl
    rotate_left
    · simp only [Act.put, List.setIfInBounds_toArray, List.set_cons_zero, List.set_cons_succ, i64_w, i32_w]
      rfl
    refine pure_ (i := 6) (N := some 14) (v := ?_) (a' := ?_) #[true, true, true, true, false, true, true, false, false, false, false] rfl rfl (by kernel_rfl) (fun _ _ _ h => h) (Or.inl ⟨by rfl, ?_⟩) ?_ ?_
    rotate_left
    · intro w'
      go_simp
      with_reducible rfl
    rotate_left
    · simp only [Act.put, List.setIfInBounds_toArray, List.set_cons_zero, List.set_cons_succ, i64_w, i32_w]
      rfl
    refine pure_ (i := 7) (N := some 15) (v := ?_) (a' := ?_) #[true, true, true, true, false, true, true, true, false, false, false] rfl rfl (by kernel_rfl) (fun _ _ _ h => h) (Or.inl ⟨by rfl, ?_⟩) ?_ ?_
    rotate_left
    · intro w'
      go_simp
      with_reducible rfl
    rotate_left
    · simp only [Act.put, List.setIfInBounds_toArray, List.set_cons_zero, List.set_cons_succ, i64_w, i32_w]
      rfl
    refine pure_ (i := 8) (N := some 16) (v := ?_) (a' := ?_) #[true, true, true, true, false, true, true, true, true, false, false] rfl rfl (by kernel_rfl) (fun _ _ _ h => h) (Or.inl ⟨by rfl, ?_⟩) ?_ ?_
    rotate_left
    · intro w'
      go_simp
      with_reducible rfl
    rotate_left
    · simp only [Act.put, List.setIfInBounds_toArray, List.set_cons_zero, List.set_cons_succ, i64_w, i32_w]
      rfl
    refine take_ (i := 4) (N := some 12) (v := ?_) (a' := ?_) #[true, true, true, true, true, true, true, true, true, false, false] rfl rfl (by kernel_rfl) (fun _ _ _ h => h) (Or.inl ⟨by rfl, ?_⟩) hHeld ?_ ?_
    rotate_left
    · rintro w' ⟨s0, s1, s2, s3, s4, s5⟩
      go_simp
      with_reducible rfl
    rotate_left
    · simp only [Act.put, List.setIfInBounds_toArray, List.set_cons_zero, List.set_cons_succ, i64_w, i32_w]
      rfl
    refine take_ (i := 9) (N := some 17) (v := ?_) (a' := ?_) #[true, true, true, true, true, true, true, true, true, true, false] rfl rfl (by kernel_rfl) (fun _ _ _ h => h) (Or.inl ⟨by rfl, ?_⟩) hHeld ?_ ?_
    rotate_left
    · rintro w' ⟨s0, s1, s2, s3, s4, s5⟩
      go_simp
      with_reducible rfl
    rotate_left
    · simp only [Act.put, List.setIfInBounds_toArray, List.set_cons_zero, List.set_cons_succ, i64_w, i32_w]
      rfl
    refine last_ (i := 10) (N := some 18) #[true, true, true, true, true, true, true, true, true, true, true] rfl rfl (by kernel_rfl) (by decide) (fun K hK => ?_)
    refine goes_ Try.func18 (by kernel_rfl) rfl #[ptr g1, ptr g2] (by rfl) rfl rfl (by simp only [List.map_toArray, List.map_cons, List.map_nil]; rfl) ?_
    with_reducible refine (dirt_or g1 n x1 g2 n x2 hn hx hy _ hHeld.2.2.2.1 hHeld.2.2.2.2.2).mono ?_
    rintro e w2 ⟨rfl, hd, ho⟩
    refine ⟨_, rfl, ?_⟩
    have hT2 := Blk.only hHeld.2.2.2.2.1 ho (Ne.symm N1.out)
    have hD2 := Blk.only hHeld.2.2.2.2.2 ho (Ne.symm HH.out.2.2.2)
    have hO3 := (Deep.of hHeld.2.2.1 HL.out).only HL.out HH.out.2.1 hHeld.2.2.2.1 (.inr rfl) ho
    refine hK.out _ _ ?_
    clear hK K
    refine norm_ (a' := ?_) ?_ ?_
    rotate_left
    · show Act.put _ (some 18) _ = _
      simp only [Act.put, List.setIfInBounds_toArray, List.set_cons_zero, List.set_cons_succ, i64_w, i32_w]
      rfl
    refine done_ (by kernel_rfl) ?_
    have HB3 := Aside0.mk hO3
    have HT2 := Aside0.mk hT2
    have HD2 := Aside0.mk hD2
    have HDn := Aside0.mk hd
    have c1 := hT2.cell (i := 1) rfl
    have c3 := hT2.cell (i := 3) rfl
    have f1 := hT2.frozen 1
    clear hO3 hT2 hD2 hd ho hHeld c0 c2 HT1 E1 E2 HB1
    have hH := HH.out
    obtain ⟨h1, h2, h3, h4⟩ := hH
    have Hend : ∀ W l, Deep base w W → TrackAt W base gt n (x1 ||| (x2 &&& ones 0 n)) x2 l l2 true → Calls Try.prog 90 #[ptr gt] W fun e w' => e = .returned (.tuple #[]) ∧ TrackAt w' base gt n (x1 ||| (x2 &&& ones 0 n)) 0 l false false ∧ Deep base w w' := fun W l hB hT => (track_end base gt n _ x2 l l2 true W hT hn).mono (fun e w' ⟨p, q, r⟩ => ⟨p, q, hB.trans r⟩)
    have HE := Aside0.mk Hend
    have HHq : Aside0 (base ≤ gt ∧ base ≤ g1 ∧ base ≤ g2 ∧ g1 ≠ g2) := ⟨⟨h1, h2, h3, h4⟩⟩
    clear Hend h1 h2 h3 h4
    cases l1
    all_goals
      go_wp2_with fail
      refine (HE.out _ _ (HB3.out.set HHq.out.1 HT2.out (.inl rfl) 1 _) ⟨g1, g2, HHq.out.1, HHq.out.2.1, HHq.out.2.2.1, HHq.out.2.2.2, HT2.out.set_ 1 _, HDn.out.far N1.out _, HD2.out.far N2.out _⟩).mono ?_
      rintro e w4 ⟨rfl, ht, hB⟩
      have H4 := Aside0.mk ht
      have HB4 := Aside0.mk hB
      clear ht hB
      go_wp2_with fail
      go_ret
      exact ⟨rfl, H4.out, HB4.out⟩
end Go.Proofs.Ytffemlfdhkndiaa.Hand
end
section
namespace Go.Proofs.Ytffemlfdhkndiaa.Hand
open Go.RowKit Go.Proofs.YtffemlfdhkndiaaW.PrintWords Go.Proofs.YtffemlfdhkndiaaW.PrintLast Go.Proofs.YtffemlfdhkndiaaW.PrintMore Go.Proofs.Ytffemlfdhkndiaa.A Go.Proofs.Ytffemlfdhkndiaa.Bits
set_option linter.unusedVariables false
set_option linter.unusedSimpArgs false
attribute [local go_sem] max2_int min2_int max_two min_two max_three min_three max_four min_four
theorem below_mix {w W W2 : World} {base : Nat} (h : Below w.heap.size w W) (hb : w.heap.size ≤ base) (k : Deep base W W2) : Below w.heap.size w W2 :=
  h.trans ⟨k.1.os, k.1.tape, k.1.output, k.1.size, fun i hi => k.1.block i (by omega)⟩
theorem freeze_ok (base gt n x1 x2 : Nat) (l1 l2 : Bool) (w : World) (hn : n ≤ 64) (h : TrackAt w base gt n x1 x2 l1 l2 false) :
    Calls Try.prog 37 #[ptr gt] w fun e w' => e = .returned (.int .i64 0) ∧ TrackAt w' base gt n 0 x1 false l1 true ∧ Deep base w w' :=
  track_freeze base gt n x1 x2 l1 l2 false w h hn
theorem freeze_busy (base gt n x1 x2 : Nat) (l1 l2 : Bool) (w : World) (hn : n ≤ 64) (h : TrackAt w base gt n x1 x2 l1 l2 true) :
    Calls Try.prog 37 #[ptr gt] w fun e w' => e = .returned (.int .i64 3) ∧ TrackAt w' base gt n x1 x2 l1 l2 true ∧ Deep base w w' :=
  track_freeze base gt n x1 x2 l1 l2 true w h hn
theorem commit_ok (base gt n x1 x2 : Nat) (l1 l2 : Bool) (w : World) (hn : n ≤ 64) (h : TrackAt w base gt n x1 x2 l1 l2 true) :
    Calls Try.prog 39 #[ptr gt] w fun e w' => e = .returned (.int .i64 0) ∧ TrackAt w' base gt n x1 0 l1 false false ∧ Deep base w w' :=
  track_commit base gt n x1 x2 l1 l2 true w h hn
theorem commit_idle (base gt n x1 x2 : Nat) (l1 l2 : Bool) (w : World) (hn : n ≤ 64) (h : TrackAt w base gt n x1 x2 l1 l2 false) :
    Calls Try.prog 39 #[ptr gt] w fun e w' => e = .returned (.int .i64 4) ∧ TrackAt w' base gt n x1 x2 l1 l2 false ∧ Deep base w w' :=
  track_commit base gt n x1 x2 l1 l2 false w h hn
theorem back_ok (base gt n x1 x2 : Nat) (l1 l2 : Bool) (w : World) (hn : n ≤ 64) (hx : x1 < 18446744073709551616) (hy : x2 < 18446744073709551616) (h : TrackAt w base gt n x1 x2 l1 l2 true) :
    Calls Try.prog 45 #[ptr gt] w fun e w' => e = .returned (.int .i64 0) ∧ TrackAt w' base gt n (x1 ||| (x2 &&& ones 0 n)) 0 (l1 || l2) false false ∧ Deep base w w' :=
  track_back base gt n x1 x2 l1 l2 true w h hn hx hy
theorem back_idle (base gt n x1 x2 : Nat) (l1 l2 : Bool) (w : World) (hn : n ≤ 64) (hx : x1 < 18446744073709551616) (hy : x2 < 18446744073709551616) (h : TrackAt w base gt n x1 x2 l1 l2 false) :
    Calls Try.prog 45 #[ptr gt] w fun e w' => e = .returned (.int .i64 4) ∧ TrackAt w' base gt n x1 x2 l1 l2 false ∧ Deep base w w' :=
  track_back base gt n x1 x2 l1 l2 false w h hn hx hy
theorem frozen_ok (base gt n x1 x2 : Nat) (l1 l2 : Bool) (w : World) (hn : n ≤ 64) (hy : x2 < 18446744073709551616) (h : TrackAt w base gt n x1 x2 l1 l2 true) :
    Calls Try.prog 38 #[ptr gt] w fun e w' => ∃ gr, e = .returned (ptrR gr) ∧ w.heap.size ≤ gr ∧ RunsAt w' w.heap.size gr (spansOf (markS n x2 l2)) ∧ Below w.heap.size w w' :=
  track_frozen base gt n x1 x2 l1 l2 true w h hn hy
theorem frozen_idle (base gt n x1 x2 : Nat) (l1 l2 : Bool) (w : World) (hn : n ≤ 64) (hy : x2 < 18446744073709551616) (h : TrackAt w base gt n x1 x2 l1 l2 false) :
    Calls Try.prog 38 #[ptr gt] w fun e w' => ∃ gr, e = .returned (ptrR gr) ∧ w.heap.size ≤ gr ∧ RunsAt w' w.heap.size gr [] ∧ Below w.heap.size w w' :=
  track_frozen base gt n x1 x2 l1 l2 false w h hn hy
set_option maxRecDepth 100000 in
theorem alive6 (w : World) :
    Calls Try.prog 35 #[] w fun e w' => e = .returned (.bool true) ∧ Below w.heap.size w w' := by
  have HB0 := Aside0.mk (Below.refl w.heap.size w)
  go_enter Try.func35, Try.ntmps35
  go_wp2_with fail
  refine (track_new 4 (by decide) (by decide) _).mono ?_
  rintro e w1 ⟨gt, rfl, ht, hB⟩
  obtain ⟨tb, htb⟩ : ∃ n, n = w.heap.size := ⟨_, rfl⟩
  rw [← htb] at ht
  have GB : Aside0 (w.heap.size ≤ tb) := ⟨by rw [htb]; exact HB0.out.size⟩
  have T1 := Aside0.mk ht
  have HB1 := Aside0.mk (below_step HB0.out hB)
  clear ht hB htb HB0
  go_wp2_with fail
  refine (track_lost tb gt 4 0 0 true false false _ T1.out).mono ?_
  rintro e w2 ⟨rfl, hB⟩
  have T2 := Aside0.mk (T1.out.keep hB)
  have HB2 := Aside0.mk (below_step HB1.out hB)
  clear hB HB1 T1
  go_wp2_with fail
  refine (freeze_ok tb gt 4 0 0 true false _ (by decide) T2.out).mono ?_
  rintro e w3 ⟨rfl, ht, hB⟩
  have T3 := Aside0.mk ht
  have HB3 := Aside0.mk (below_mix HB2.out GB.out hB)
  clear hB ht HB2 T2
  go_wp2_with fail
  refine (commit_ok tb gt 4 0 0 false true _ (by decide) T3.out).mono ?_
  rintro e w4 ⟨rfl, ht, hB⟩
  have T4 := Aside0.mk ht
  have HB4 := Aside0.mk (below_mix HB3.out GB.out hB)
  clear hB ht HB3 T3
  go_wp2_with fail
  refine (track_mark tb gt 4 0 0 false false false _ T4.out 1 1 (by decide) (by decide)).mono ?_
  rintro e w5 ⟨rfl, ht, hB⟩
  rw [show cnt (minus (markV 4 1 1) 0) = 1 by decide]
  rw [show 0 ||| markV 4 1 1 = 2 by decide] at ht
  have T5 := Aside0.mk ht
  have HB5 := Aside0.mk (below_mix HB4.out GB.out hB)
  clear hB ht HB4 T4
  go_wp2_with fail
  refine (freeze_ok tb gt 4 2 0 false false _ (by decide) T5.out).mono ?_
  rintro e w6 ⟨rfl, ht, hB⟩
  have T6 := Aside0.mk ht
  have HB6 := Aside0.mk (below_mix HB5.out GB.out hB)
  clear hB ht HB5 T5
  go_wp2_with fail
  refine (frozen_ok tb gt 4 0 2 false false _ (by decide) (by decide) T6.out).mono ?_
  rintro e w7 ⟨gr, rfl, hg, hr, hB⟩
  rw [show spansOf (markS 4 2 false) = [⟨1, 1⟩] by decide] at hr
  have T7 := Aside0.mk (T6.out.keep hB)
  have R_7 := Aside0.mk hr
  have GE_R : Aside0 (w.heap.size ≤ gr) := ⟨Nat.le_trans HB6.out.size hg⟩
  have HB7 := Aside0.mk (below_step HB6.out hB)
  clear hB hr hg HB6 T6
  go_wp2_with fail
  refine (runs_count _ gr [⟨1, 1⟩] _ ⟨by decide, by decide, by decide, trivial⟩ R_7.out).mono ?_
  rintro e w8 ⟨rfl, hB⟩
  rw [show sumN [⟨1, 1⟩] = 1 by decide]
  have T8 := Aside0.mk (T7.out.keep hB)
  have R_8 := Aside0.mk (R_7.out.keep hB)
  clear R_7
  have HB8 := Aside0.mk (below_step HB7.out hB)
  clear hB HB7 T7
  go_wp2_with fail
  refine (runs_has _ gr [⟨1, 1⟩] 1 _ ⟨by decide, by decide, by decide, trivial⟩ R_8.out).mono ?_
  rintro e w9 ⟨rfl, hB⟩
  rw [show memB [⟨1, 1⟩] 1 = true by decide]
  have T9 := Aside0.mk (T8.out.keep hB)
  have R_9 := Aside0.mk (R_8.out.keep hB)
  clear R_8
  have HB9 := Aside0.mk (below_step HB8.out hB)
  clear hB HB8 T8
  go_wp2_with fail
  refine (track_busy tb gt 4 0 2 false false true _ T9.out).mono ?_
  rintro e w10 ⟨rfl, hB⟩
  have T10 := Aside0.mk (T9.out.keep hB)
  have R_10 := Aside0.mk (R_9.out.keep hB)
  clear R_9
  have HB10 := Aside0.mk (below_step HB9.out hB)
  clear hB HB9 T9
  go_wp2_with fail
  refine (track_lost tb gt 4 0 2 false false true _ T10.out).mono ?_
  rintro e w11 ⟨rfl, hB⟩
  have T11 := Aside0.mk (T10.out.keep hB)
  have R_11 := Aside0.mk (R_10.out.keep hB)
  clear R_10
  have HB11 := Aside0.mk (below_step HB10.out hB)
  clear hB HB10 T10
  go_wp2_with fail
  go_ret
  exact ⟨rfl, HB11.out⟩
end Go.Proofs.Ytffemlfdhkndiaa.Hand
end
section
namespace Go.Proofs.Ytffemlfdhkndiaa.Hand
open Go.RowKit Go.Proofs.YtffemlfdhkndiaaW.PrintWords Go.Proofs.YtffemlfdhkndiaaW.PrintLast Go.Proofs.YtffemlfdhkndiaaW.PrintMore Go.Proofs.Ytffemlfdhkndiaa.A
set_option linter.unusedVariables false
set_option linter.unusedSimpArgs false
/-- No block of a row is free. -/
def Taken (F : Nat → Prop) (x : Value) : Prop := ∀ k, x.ownBlock = some k → ¬ F k
/-- A book: its lists of ints, spans, extents. -/
def KeptAt (w : World) (base g : Nat) (F : Nat → Prop) (LI : List (List Int)) (LS : List (List S31)) (LE : List (List S135)) : Prop :=
  ∃ VI UI VS US VE UE vi ui vs us ve ue, Blk w g 52 (bookC VI UI VS US VE UE) ∧ base ≤ g ∧ Pile (Kd.int .i64) 3 118 w base VI UI vi ui LI ∧ Pile k31 31 22 w base VS US vs us LS ∧ Pile k135 135 120 w base VE UE ve ue LE ∧ (∀ x ∈ vi ++ ui, Taken F x) ∧ (∀ x ∈ vs ++ us, Taken F x) ∧ (∀ x ∈ ve ++ ue, Taken F x)
section
variable {w w1 : World} {base g : Nat} {F F' : Nat → Prop} {LI : List (List Int)} {LS : List (List S31)} {LE : List (List S135)}
theorem Taken.mono {x : Value} (h : Taken F x) (hF : ∀ k, F' k → F k) : Taken F' x := fun k hk hf => h k hk (hF k hf)
theorem KeptAt.mono (h : KeptAt w base g F LI LS LE) (hF : ∀ k, F' k → F k) : KeptAt w base g F' LI LS LE := by
  obtain ⟨VI, UI, VS, US, VE, UE, vi, ui, vs, us, ve, ue, hb, hg, h1, h2, h3, f1, f2, f3⟩ := h
  exact ⟨VI, UI, VS, US, VE, UE, vi, ui, vs, us, ve, ue, hb, hg, h1, h2, h3, fun x hx => (f1 x hx).mono hF, fun x hx => (f2 x hx).mono hF, fun x hx => (f3 x hx).mono hF⟩
theorem KeptAt.below (h : KeptAt w base g F LI LS LE) (hB : Below w.heap.size w w1) : KeptAt w1 base g F LI LS LE := by
  obtain ⟨VI, UI, VS, US, VE, UE, vi, ui, vs, us, ve, ue, hb, hg, h1, h2, h3, f⟩ := h
  exact ⟨VI, UI, VS, US, VE, UE, vi, ui, vs, us, ve, ue, hb.keep hB, hg, h1.below hB, h2.below hB, h3.below hB, f⟩
theorem KeptAt.keep (h : KeptAt w base g F LI LS LE) (hB : Below w.heap.size w w1) : KeptAt w1 base g F LI LS LE := h.below hB
theorem KeptAt.book (h : KeptAt w base g F LI LS LE) : ∃ cs, Blk w g 52 cs := by
  obtain ⟨VI, UI, VS, US, VE, UE, vi, ui, vs, us, ve, ue, hb, _⟩ := h
  exact ⟨_, hb⟩
theorem KeptAt.lt (h : KeptAt w base g F LI LS LE) : g < w.heap.size := by
  obtain ⟨cs, hb⟩ := h.book
  exact hb.lt
theorem KeptAt.ge (h : KeptAt w base g F LI LS LE) : base ≤ g := by
  obtain ⟨VI, UI, VS, US, VE, UE, vi, ui, vs, us, ve, ue, hb, hg, _⟩ := h
  exact hg
theorem pile_lt {α : Type} {d : Kd α} {e eL : Nat} {V U : Value} {vs us : List Value} {L : List (List α)} (h : Pile d e eL w base V U vs us L) : ∀ x ∈ vs ++ us, ∀ k, x.ownBlock = some k → base ≤ k ∧ k < w.heap.size := by
  intro x hx k hk
  rcases List.mem_append.1 hx with hx | hx
  · exact h.rv.lt hx hk
  · exact h.ru.lt hx hk
theorem KeptAt.top (h : KeptAt w base g F LI LS LE) : KeptAt w base g (fun k => w.heap.size ≤ k) LI LS LE := by
  obtain ⟨VI, UI, VS, US, VE, UE, vi, ui, vs, us, ve, ue, hb, hg, h1, h2, h3, f1, f2, f3⟩ := h
  exact ⟨VI, UI, VS, US, VE, UE, vi, ui, vs, us, ve, ue, hb, hg, h1, h2, h3, fun x hx k hk hf => by have := (pile_lt h1 x hx k hk).2; omega, fun x hx k hk hf => by have := (pile_lt h2 x hx k hk).2; omega, fun x hx k hk hf => by have := (pile_lt h3 x hx k hk).2; omega⟩
/-- Blocks of other types have turned. -/
theorem KeptAt.types (h : KeptAt w base g F LI LS LE) (hm : ∀ k cs t, (t = 3 ∨ t = 118 ∨ t = 31 ∨ t = 22 ∨ t = 135 ∨ t = 120 ∨ t = 52) → base ≤ k → Blk w k t cs → Blk w1 k t cs) : KeptAt w1 base g F LI LS LE := by
  obtain ⟨VI, UI, VS, US, VE, UE, vi, ui, vs, us, ve, ue, hb, hg, h1, h2, h3, f⟩ := h
  refine ⟨VI, UI, VS, US, VE, UE, vi, ui, vs, us, ve, ue, hm _ _ _ (by simp) hg hb, hg, h1.keepT rfl (fun k cs t hk ht hbk => ?_), h2.keepT rfl (fun k cs t hk ht hbk => ?_), h3.keepT rfl (fun k cs t hk ht hbk => ?_), f⟩
  · exact (hm k cs t (by rcases ht with rfl | rfl <;> simp) hbk hk).trans hk.symm
  · exact (hm k cs t (by rcases ht with rfl | rfl <;> simp) hbk hk).trans hk.symm
  · exact (hm k cs t (by rcases ht with rfl | rfl <;> simp) hbk hk).trans hk.symm
theorem KeptAt.only {g' t : Nat} {cs : Array Value} (h : KeptAt w base g F LI LS LE) (ho : Only w w1 g') (hb : Blk w g' t cs) (ht : t ≠ 3 ∧ t ≠ 118 ∧ t ≠ 31 ∧ t ≠ 22 ∧ t ≠ 135 ∧ t ≠ 120 ∧ t ≠ 52) : KeptAt w1 base g F LI LS LE := by
  refine h.types (fun k cs' t' ht' _ hk => hk.only ho (fun e => ?_))
  subst e
  have hq := hb.hd.symm.trans hk.hd
  injection hq with hq; injection hq with _ hq
  subst hq
  rcases ht' with h | h | h | h | h | h | h
  · exact ht.1 h
  · exact ht.2.1 h
  · exact ht.2.2.1 h
  · exact ht.2.2.2.1 h
  · exact ht.2.2.2.2.1 h
  · exact ht.2.2.2.2.2.1 h
  · exact ht.2.2.2.2.2.2 h
theorem KeptAt.onlyR {g' base' : Nat} {l' : List S31} (h : KeptAt w base g F LI LS LE) (ho : Only w w1 g') (hb : RunsAt w base' g' l') : KeptAt w1 base g F LI LS LE := by
  obtain ⟨v, hb, _⟩ := hb
  exact h.only ho hb (by decide)
theorem Blk.onlyR {k t' g' base' : Nat} {cs' : Array Value} {l' : List S31} (h : Blk w k t' cs') (ho : Only w w1 g') (hb : RunsAt w base' g' l') (ht : t' ≠ 90) : Blk w1 k t' cs' := by
  obtain ⟨v, hb, _⟩ := hb
  refine h.only ho (fun e => ?_)
  subst e
  have hq := hb.hd.symm.trans h.hd
  injection hq with hq; injection hq with _ hq
  exact ht hq.symm
theorem Blk.neT {k t' g' t : Nat} {cs cs' : Array Value} (h : Blk w k t' cs') (hb : Blk w g' t cs) (ht : t' ≠ t) : k ≠ g' := fun e => by
  subst e
  have hq := hb.hd.symm.trans h.hd
  injection hq with hq; injection hq with _ hq
  exact ht hq.symm
theorem Blk.onlyT {k t' g' t : Nat} {cs cs' : Array Value} (h : Blk w k t' cs') (ho : Only w w1 g') (hb : Blk w g' t cs) (ht : t' ≠ t) : Blk w1 k t' cs' := h.only ho (h.neT hb ht)
theorem R_onlyT {α : Type} {d : Kd α} {e B g' t : Nat} {v : Value} {l : List α} {cs : Array Value} (hE : d.E = []) (hv : Kd.R d e w B (fun _ => True) v l) (ho : Only w w1 g') (hb : Blk w g' t cs) (ht : e ≠ t) : Kd.R d e w1 B (fun _ => True) v l :=
  R_moved hE hv (fun k hk => by
    obtain ⟨cs', hc⟩ := Kd.R_typed hv k hk
    exact ((show Blk w k e cs' from hc).onlyT ho hb ht).trans hc.symm)
theorem RunsAt.onlyT {g' t B gr : Nat} {cs : Array Value} {l : List S31} (h : RunsAt w B gr l) (ho : Only w w1 g') (hb : Blk w g' t cs) (h1 : 90 ≠ t) (h2 : 31 ≠ t) : RunsAt w1 B gr l := by
  obtain ⟨v, hv, hr⟩ := h
  exact ⟨v, hv.onlyT ho hb h1, ORow.of_R (R_onlyT rfl hr.to_R ho hb h2)⟩
theorem KeptAt.new' (w : World) (base n : Nat) (hn : w.heap.size = n) (hb : base ≤ w.heap.size) : KeptAt (w.alloc (.cells (bookC (.slice none 0 0) (.slice none 0 0) (.slice none 0 0) (.slice none 0 0) (.slice none 0 0) (.slice none 0 0)) 52)) base n (fun k => (w.alloc (.cells (bookC (.slice none 0 0) (.slice none 0 0) (.slice none 0 0) (.slice none 0 0) (.slice none 0 0) (.slice none 0 0)) 52)).heap.size ≤ k) [] [] [] := by
  subst hn
  exact KeptAt.top (F := fun _ => True) ⟨_, _, _, _, _, _, [], [], [], [], [], [], Blk.new _ _ _, hb, Pile.nil _ _ _ _ _, Pile.nil _ _ _ _ _, Pile.nil _ _ _ _ _, by simp, by simp, by simp⟩
theorem KeptAt.new (w : World) (base : Nat) (hb : base ≤ w.heap.size) : KeptAt (w.alloc (.cells (bookC (.slice none 0 0) (.slice none 0 0) (.slice none 0 0) (.slice none 0 0) (.slice none 0 0) (.slice none 0 0)) 52)) base w.heap.size (fun _ => True) [] [] [] :=
  ⟨_, _, _, _, _, _, [], [], [], [], [], [], Blk.new _ _ _, hb, Pile.nil _ _ _ _ _, Pile.nil _ _ _ _ _, Pile.nil _ _ _ _ _, by simp, by simp, by simp⟩
/-- What a book's method leaves of the rest. -/
theorem BookFx.blkT {LT k t t' : Nat} {cs cs' : Array Value} (h : BookFx LT g base w w1) (hg : Blk w g t cs) (hb : Blk w k t' cs') (h1 : t' ≠ LT) (h2 : t' ≠ t) : Blk w1 k t' cs' :=
  h.blk hb h1 (fun e => by
    subst e
    have hq := hg.hd.symm.trans hb.hd
    injection hq with hq; injection hq with _ hq
    exact h2 hq.symm)
theorem BookFx.own {LT b e n m t : Nat} {v : Value} {xs : List Value} {cs : Array Value} (h : BookFx LT g base w w1) (hg : Blk w g t cs) (hv : w.ownsRow b e m v n xs) (h1 : e ≠ LT) (h2 : e ≠ t) : w1.ownsRow b e m v n xs :=
  own_move hv (fun k hk => by
    obtain ⟨cs', hc⟩ := own_typed hv k hk
    exact (h.blkT hg (show Blk w k e cs' from hc) h1 h2).trans hc.symm)
theorem BookFx.runs {LT B gr t : Nat} {l : List S31} {cs : Array Value} (h : BookFx LT g base w w1) (hg : Blk w g t cs) (hr : RunsAt w B gr l) (h1 : 90 ≠ LT) (h2 : 90 ≠ t) (h3 : 31 ≠ LT) (h4 : 31 ≠ t) : RunsAt w1 B gr l := by
  obtain ⟨v, hb, ho⟩ := hr
  exact ⟨v, h.blkT hg hb h1 h2, h.own hg ho h3 h4⟩
end
theorem BookFx.Rr {α : Type} {d : Kd α} {e LT g base B t : Nat} {w w1 : World} {v : Value} {l : List α} {cs : Array Value} (hE : d.E = []) (h : BookFx LT g base w w1) (hg : Blk w g t cs) (hv : Kd.R d e w B (fun _ => True) v l) (h1 : e ≠ LT) (h2 : e ≠ t) : Kd.R d e w1 B (fun _ => True) v l :=
  R_moved hE hv (fun k hk => by
    obtain ⟨cs', hc⟩ := Kd.R_typed hv k hk
    exact (h.blkT hg (show Blk w k e cs' from hc) h1 h2).trans hc.symm)
theorem taken_ne {F : Nat → Prop} {x v : Value} (h : Taken F x) (hv : ∀ k, v.ownBlock = some k → F k) : NeRow x v := fun k hk hk' => h k hk (hv k hk')
theorem kept_S (g base : Nat) (F : Nat → Prop) (LI : List (List Int)) (LS : List (List S31)) (LE : List (List S135)) (v : Value) (l : List S31) (w : World) (hk : KeptAt w base g F LI LS LE)
    (hv : Kd.R k31 31 w base (fun _ => True) v l) (hl : l.length ≤ 1000000) (hL : LS.length < 250) (hnv : ∀ k, v.ownBlock = some k → F k) (hbase : base ≤ w.heap.size) :
    Calls Try.prog 27 #[.pointer (some ⟨g, 0, none⟩), v] w fun e w' => e = .returned (.tuple #[]) ∧ KeptAt w' base g (fun k => (F k ∧ k < w.heap.size ∧ v.ownBlock ≠ some k) ∨ w'.heap.size ≤ k) LI (LS ++ [l]) LE ∧ BookFx 22 g base w w' := by
  obtain ⟨VI, UI, VS, US, VE, UE, vi, ui, vs, us, ve, ue, hb, hg, h1, h2, h3, f1, f2, f3⟩ := hk
  refine (add_Spans g base VI UI VE UE VS US vs us LS v l w hb h2 hv hl hL (fun x hx => taken_ne (f2 x hx) hnv) hbase hg).mono ?_
  rintro e w' ⟨rfl, V', U', u, hb', hP', hu, hfx⟩
  have k1 : Pile (Kd.int .i64) 3 118 w' base VI UI vi ui LI := h1.keepT rfl (fun k cs t hk ht hbk => by
    refine hfx.2 k (Array.getElem?_eq_some_iff.1 hk).1 (fun e => ?_) (fun cs' hc => ?_)
    · subst e; rw [hb.hd] at hk; injection hk with hk; injection hk with _ hk; rcases ht with rfl | rfl <;> exact absurd hk (by decide)
    · rw [hk] at hc; injection hc with hc; injection hc with _ hc; rcases ht with rfl | rfl <;> exact absurd hc (by decide))
  have k3 : Pile k135 135 120 w' base VE UE ve ue LE := h3.keepT rfl (fun k cs t hk ht hbk => by
    refine hfx.2 k (Array.getElem?_eq_some_iff.1 hk).1 (fun e => ?_) (fun cs' hc => ?_)
    · subst e; rw [hb.hd] at hk; injection hk with hk; injection hk with _ hk; rcases ht with rfl | rfl <;> exact absurd hk (by decide)
    · rw [hk] at hc; injection hc with hc; injection hc with _ hc; rcases ht with rfl | rfl <;> exact absurd hc (by decide))
  have z : w.heap.size ≤ w'.heap.size := hfx.1.size
  refine ⟨rfl, ⟨VI, UI, V', U', VE, UE, vi, ui, vs ++ [v], us ++ [u], ve, ue, hb', hg, k1, hP', k3, fun x hx k hk hf => ?_, fun x hx k hk hf => ?_, fun x hx k hk hf => ?_⟩, hfx⟩
  · rcases hf with hf | hf
    · exact f1 x hx k hk hf.1
    · have := (pile_lt k1 x hx k hk).2; omega
  · rcases hf with hf | hf
    · have hx' : x ∈ vs ++ us ∨ x = v ∨ x = u := by
        simp only [List.mem_append, List.mem_singleton] at hx ⊢
        rcases hx with (h | h) | (h | h)
        · exact .inl (.inl h)
        · exact .inr (.inl h)
        · exact .inl (.inr h)
        · exact .inr (.inr h)
      rcases hx' with hx' | rfl | rfl
      · exact f2 x hx' k hk hf.1
      · exact hf.2.2 hk
      · have := hu k hk; omega
    · have := (pile_lt hP' x hx k hk).2; omega
  · rcases hf with hf | hf
    · exact f3 x hx k hk hf.1
    · have := (pile_lt k3 x hx k hk).2; omega
theorem kept_apart (g base : Nat) (F : Nat → Prop) (LI : List (List Int)) (LS : List (List S31)) (LE : List (List S135)) (w : World) (hk : KeptAt w base g F LI LS LE)
    (bI : LI.length ≤ 250 ∧ ∀ l ∈ LI, l.length ≤ 1000000) (bS : LS.length ≤ 250 ∧ ∀ l ∈ LS, l.length ≤ 1000000) (bE : LE.length ≤ 250 ∧ ∀ l ∈ LE, l.length ≤ 1000000) (hbase : base ≤ w.heap.size) :
    Calls Try.prog 33 #[.pointer (some ⟨g, 0, none⟩)] w fun e w' => e = .returned (.bool true) ∧ Below base w w' := by
  obtain ⟨VI, UI, VS, US, VE, UE, vi, ui, vs, us, ve, ue, hb, hg, h1, h2, h3, f1, f2, f3⟩ := hk
  exact apart g base VI UI VS US VE UE vi ui vs us ve ue LI LS LE w hb h1 h2 h3 ⟨bI.1, fun i l hl => bI.2 l (List.mem_of_getElem? hl)⟩ ⟨bS.1, fun i l hl => bS.2 l (List.mem_of_getElem? hl)⟩ ⟨bE.1, fun i l hl => bE.2 l (List.mem_of_getElem? hl)⟩ hbase
end Go.Proofs.Ytffemlfdhkndiaa.Hand
end
section
namespace Go.Proofs.Ytffemlfdhkndiaa.Hand
open Go.RowKit Go.Proofs.YtffemlfdhkndiaaW.PrintWords Go.Proofs.YtffemlfdhkndiaaW.PrintLast Go.Proofs.YtffemlfdhkndiaaW.PrintMore Go.Proofs.Ytffemlfdhkndiaa.A Go.Proofs.Ytffemlfdhkndiaa.Bits
set_option linter.unusedVariables false
set_option linter.unusedSimpArgs false
attribute [local go_sem] max2_int min2_int max_two min_two max_three min_three max_four min_four
/-- A track whose blocks are outside G. -/
def TrackG (w : World) (G : Nat → Prop) (gt n x1 x2 : Nat) (l1 l2 b : Bool) : Prop := ∃ g1 g2, ¬ G gt ∧ ¬ G g1 ∧ ¬ G g2 ∧ g1 ≠ g2 ∧ Blk w gt 109 #[ptr g1, .bool l1, ptr g2, .bool l2, .bool b] ∧ DirtAt w g1 n x1 ∧ DirtAt w g2 n x2
def DeepG (G : Nat → Prop) (w w1 : World) : Prop := Below 0 w w1 ∧ (∀ k, G k → w1.heap[k]? = w.heap[k]?) ∧ ∀ g t cs, t ≠ 109 → t ≠ 80 → Blk w g t cs → Blk w1 g t cs
section
variable {G : Nat → Prop} {w W W2 : World}
theorem TrackG.at0 {gt n x1 x2 : Nat} {l1 l2 b : Bool} (h : TrackG w G gt n x1 x2 l1 l2 b) : TrackAt w 0 gt n x1 x2 l1 l2 b := by
  obtain ⟨g1, g2, _, _, _, h4, ht, d1, d2⟩ := h
  exact ⟨g1, g2, Nat.zero_le _, Nat.zero_le _, Nat.zero_le _, h4, ht, d1, d2⟩
theorem DeepG.size (h : DeepG G w W) : w.heap.size ≤ W.heap.size := h.1.size
theorem DeepG.of (h : Below w.heap.size w W) (hB : ∀ k, G k → k < w.heap.size) : DeepG G w W := ⟨below_deep h (Nat.zero_le _), fun k hk => h.block k (hB k hk), fun g t cs _ _ hb => hb.keep h⟩
theorem DeepG.trans (h : DeepG G w W) (k : DeepG G W W2) : DeepG G w W2 := ⟨h.1.trans k.1, fun j hj => (k.2.1 j hj).trans (h.2.1 j hj), fun g t cs a b c => k.2.2 g t cs a b (h.2.2 g t cs a b c)⟩
theorem DeepG.step (h : DeepG G w W) (hB : ∀ k, G k → k < w.heap.size) (k : Below W.heap.size W W2) : DeepG G w W2 := h.trans (DeepG.of k (fun j hj => Nat.lt_of_lt_of_le (hB j hj) h.size))
theorem DeepG.set {g t : Nat} {cs : Array Value} (h : DeepG G w W) (hg : ¬ G g) (hb : Blk W g t cs) (ht : t = 109 ∨ t = 80) (j : Nat) (u : Value) : DeepG G w (W.setCell ⟨g, j, none⟩ u) :=
  ⟨h.1.setCell (Nat.zero_le _) u, fun k hk => (Below.heap_setCell W ⟨g, j, none⟩ u k (fun e => hg (by rw [← show k = g from e]; exact hk))).trans (h.2.1 k hk), fun g' t' cs' a b c => (h.2.2 g' t' cs' a b c).far (p := ⟨g, j, none⟩) ((h.2.2 g' t' cs' a b c).ne hb (by rcases ht with rfl | rfl <;> assumption)) u⟩
theorem DeepG.only {g t : Nat} {cs : Array Value} (h : DeepG G w W) (hB : ∀ k, G k → k < w.heap.size) (hg : ¬ G g) (hb : Blk W g t cs) (ht : t = 109 ∨ t = 80) (ho : Only W W2 g) : DeepG G w W2 :=
  ⟨h.1.trans (only_deep ho (Nat.zero_le _) (Nat.zero_le _)), fun k hk => (ho.block k (Nat.lt_of_lt_of_le (hB k hk) h.size) (fun e => hg (by injection e with e; rw [← e]; exact hk))).trans (h.2.1 k hk), fun g' t' cs' a b c => (h.2.2 g' t' cs' a b c).only ho ((h.2.2 g' t' cs' a b c).ne hb (by rcases ht with rfl | rfl <;> assumption))⟩
theorem DeepG.deep {B : Nat} (h : DeepG G w W) (hG : ∀ k, k < B → G k) : Deep B w W := ⟨⟨h.1.os, h.1.tape, h.1.output, h.1.size, fun k hk => h.2.1 k (hG k hk)⟩, h.2.2⟩
theorem TrackAt.guard {base gt n x1 x2 : Nat} {l1 l2 b : Bool} (h : TrackAt w base gt n x1 x2 l1 l2 b) (hd : DeepG G w W) (hG : ∀ k, base ≤ k → k < w.heap.size → G k) : TrackAt W base gt n x1 x2 l1 l2 b := by
  obtain ⟨g1, g2, h1, h2, h3, h4, ht, d1, d2⟩ := h
  exact ⟨g1, g2, h1, h2, h3, h4, (hd.2.1 gt (hG gt h1 ht.lt)).trans ht, (hd.2.1 g1 (hG g1 h2 d1.lt)).trans d1, (hd.2.1 g2 (hG g2 h3 d2.lt)).trans d2⟩
theorem TrackAt.toG {base lim gt n x1 x2 : Nat} {l1 l2 b : Bool} (h : TrackAt w base gt n x1 x2 l1 l2 b) (hl : w.heap.size ≤ lim) {T : Nat} : TrackG w (fun k => k < base ∨ (lim ≤ k ∧ k < T)) gt n x1 x2 l1 l2 b := by
  obtain ⟨g1, g2, h1, h2, h3, h4, ht, d1, d2⟩ := h
  have a1 := ht.lt
  have a2 := d1.lt
  have a3 := d2.lt
  exact ⟨g1, g2, by omega, by omega, by omega, h4, ht, d1, d2⟩
theorem TrackG.keep {gt n x1 x2 : Nat} {l1 l2 b : Bool} (h : TrackG w G gt n x1 x2 l1 l2 b) (hB : Below w.heap.size w W) : TrackG W G gt n x1 x2 l1 l2 b := by
  obtain ⟨g1, g2, h1, h2, h3, h4, ht, d1, d2⟩ := h
  exact ⟨g1, g2, h1, h2, h3, h4, ht.keep hB, d1.keep hB, d2.keep hB⟩
theorem TrackAt.lower {base base' gt n x1 x2 : Nat} {l1 l2 b : Bool} (h : TrackAt w base gt n x1 x2 l1 l2 b) (hb : base' ≤ base) : TrackAt w base' gt n x1 x2 l1 l2 b := by
  obtain ⟨g1, g2, h1, h2, h3, h4, ht, d1, d2⟩ := h
  exact ⟨g1, g2, by omega, by omega, by omega, h4, ht, d1, d2⟩
/-- What tracks and books leave of one another. -/
theorem KeptAt.deep {B base g : Nat} {F : Nat → Prop} {LI : List (List Int)} {LS : List (List S31)} {LE : List (List S135)} (h : KeptAt w base g F LI LS LE) (hd : Deep B w W) : KeptAt W base g F LI LS LE :=
  h.types (fun k cs t ht _ hk => hk.deep hd (by rcases ht with rfl | rfl | rfl | rfl | rfl | rfl | rfl <;> decide) (by rcases ht with rfl | rfl | rfl | rfl | rfl | rfl | rfl <;> decide))
theorem BookFx.track {LT g base B gt n x1 x2 t : Nat} {l1 l2 b : Bool} {cs : Array Value} (h : BookFx LT g base w W) (hg : Blk w g t cs) (hT : TrackAt w B gt n x1 x2 l1 l2 b) (t1 : 109 ≠ LT) (t2 : 109 ≠ t) (t3 : 80 ≠ LT) (t4 : 80 ≠ t) : TrackAt W B gt n x1 x2 l1 l2 b := by
  obtain ⟨g1, g2, h1, h2, h3, h4, ht, d1, d2⟩ := hT
  exact ⟨g1, g2, h1, h2, h3, h4, h.blkT hg ht t1 t2, h.blkT hg d1 t3 t4, h.blkT hg d2 t3 t4⟩
end
set_option maxRecDepth 100000 in
set_option maxHeartbeats 800000 in
theorem trackg_lose (G : Nat → Prop) (gt n x1 x2 : Nat) (l1 l2 b : Bool) (w : World) (hG : ∀ k, G k → k < w.heap.size) (h : TrackG w G gt n x1 x2 l1 l2 b) :
    Calls Try.prog 46 #[ptr gt] w fun e w' => e = .returned (.tuple #[]) ∧ TrackG w' G gt n x1 x2 true l2 b ∧ DeepG G w w' := by
  have HL := Aside0.mk hG
  have HN := Aside0.mk (track_none 0 gt n x1 x2 l1 l2 b w h.at0)
  obtain ⟨g1, g2, h1, h2, h3, h4, ht, d1, d2⟩ := h
  have HT := Aside0.mk ht
  have HD1 := Aside0.mk d1
  have HD2 := Aside0.mk d2
  have N1 : Aside0 (g1 ≠ gt) := ⟨d1.ne ht (by decide)⟩
  have N2 : Aside0 (g2 ≠ gt) := ⟨d2.ne ht (by decide)⟩
  have HH : Aside0 (¬ G gt ∧ ¬ G g1 ∧ ¬ G g2 ∧ g1 ≠ g2) := ⟨⟨h1, h2, h3, h4⟩⟩
  clear ht d1 d2 h1 h2 h3 h4 hG
  go_enter Try.func46, Try.ntmps46
  go_wp2_with fail
  refine HN.out.mono ?_
  rintro e w1 ⟨rfl, hB⟩
  have HB1 := Aside0.mk hB
  have HT1 := Aside0.mk (HT.out.keep hB)
  have E1 := Aside0.mk (HD1.out.keep hB)
  have E2 := Aside0.mk (HD2.out.keep hB)
  clear hB HN HT HD1 HD2
  have c1 := HT1.out.cell (i := 1) rfl
  have f1 := HT1.out.frozen 1
  go_wp2_with fail
  go_end0
  obtain ⟨h1, h2, h3, h4⟩ := HH.out
  exact ⟨rfl, ⟨g1, g2, h1, h2, h3, h4, HT1.out.set_ 1 _, E1.out.far N1.out _, E2.out.far N2.out _⟩, (DeepG.of HB1.out HL.out).set h1 HT1.out (.inl rfl) 1 _⟩
set_option maxRecDepth 100000 in
set_option maxHeartbeats 800000 in
theorem trackg_mark (G : Nat → Prop) (gt n x1 x2 : Nat) (l1 l2 b : Bool) (w : World) (hG : ∀ k, G k → k < w.heap.size) (h : TrackG w G gt n x1 x2 l1 l2 b) (F M : Int) (hn : n ≤ 64) (hx : x1 < 18446744073709551616) :
    Calls Try.prog 41 #[ptr gt, .agg #[.int .i64 F, .int .i64 M]] w fun e w' => e = .returned (.int .i64 ((cnt (minus (markV n F M) x1) : Nat) : Int)) ∧ TrackG w' G gt n (x1 ||| markV n F M) x2 l1 l2 b ∧ DeepG G w w' := by
  have HL := Aside0.mk hG
  have HN := Aside0.mk ((fun W (hB : Below w.heap.size w W) => track_none 0 gt n x1 x2 l1 l2 b W (h.at0.keep hB)))
  obtain ⟨g1, g2, h1, h2, h3, h4, ht, d1, d2⟩ := h
  have HT := Aside0.mk ht
  have HD1 := Aside0.mk d1
  have HD2 := Aside0.mk d2
  have N1 : Aside0 (g1 ≠ gt) := ⟨d1.ne ht (by decide)⟩
  have N2 : Aside0 (g2 ≠ gt) := ⟨d2.ne ht (by decide)⟩
  have HH : Aside0 (¬ G gt ∧ ¬ G g1 ∧ ¬ G g2 ∧ g1 ≠ g2) := ⟨⟨h1, h2, h3, h4⟩⟩
  clear ht d1 d2 h1 h2 h3 h4 hG
  go_enter Try.func41, Try.ntmps41
  go_wp2_with fail
  refine (HN.out _ (below_alloc (Below.refl _ _) _)).mono ?_
  rintro e w1 ⟨rfl, hB⟩
  have HB1 := Aside0.mk (below_step (below_alloc (Below.refl _ _) _) hB)
  have HX1 : Aside0 (Blk w1 w.heap.size 31 #[.int .i64 F, .int .i64 M]) := ⟨(Blk.new w _ _).keep hB⟩
  have HT1 := Aside0.mk ((HT.out.alloc _).keep hB)
  have E1 := Aside0.mk ((HD1.out.alloc _).keep hB)
  have E2 := Aside0.mk ((HD2.out.alloc _).keep hB)
  have c0 := HT1.out.cell (i := 0) rfl
  obtain ⟨gb, hgb⟩ : ∃ n, n = w.heap.size := ⟨_, rfl⟩
  rw [← hgb] at HX1
  rw [← hgb]
  have b0 := HX1.out.cell (i := 0) rfl
  have b1 := HX1.out.cell (i := 1) rfl
  clear hB HN HT HD1 HD2 hgb HX1
  go_wp2_with fail
  refine start_ (n := 8) (S := fun w' => w'.cell? ⟨gt, 0, none⟩ = some (ptr g1) ∧ w'.cell? ⟨gb, 0, none⟩ = some (.int .i64 F) ∧ w'.cell? ⟨gb, 1, none⟩ = some (.int .i64 M) ∧ Below w.heap.size w w' ∧ DirtAt w' g1 n x1 ∧ Blk w' gt 109 #[ptr g1, .bool l1, ptr g2, .bool l2, .bool b] ∧ DirtAt w' g2 n x2) (ds := [6]) #[false, false, false, false, false, false, false, false] (by kernel_rfl) rfl rfl ⟨c0, b0, b1, (below_drew1 HB1.out), (Blk.drew E1.out), (Blk.drew HT1.out), (Blk.drew E2.out)⟩ (fun hHeld => ?_)
  refine pure_ (i := 0) (N := some 7) (v := ?_) (a' := ?_) #[true, false, false, false, false, false, false, false] rfl rfl (by kernel_rfl) (fun _ _ _ h => h) (Or.inl ⟨by rfl, ?_⟩) ?_ ?_
  rotate_left
  · intro w'
    go_simp
    with_reducible rfl
  rotate_left
  · simp only [Act.put, List.setIfInBounds_toArray, List.set_cons_zero, List.set_cons_succ, i64_w, i32_w]
    rfl
  refine pure_ (i := 1) (N := some 8) (v := ?_) (a' := ?_) #[true, true, false, false, false, false, false, false] rfl rfl (by kernel_rfl) (fun _ _ _ h => h) (Or.inl ⟨by rfl, ?_⟩) ?_ ?_
  rotate_left
  · intro w'
    go_simp
    with_reducible rfl
  rotate_left
  · simp only [Act.put, List.setIfInBounds_toArray, List.set_cons_zero, List.set_cons_succ, i64_w, i32_w]
    rfl
  refine pure_ (i := 2) (N := some 9) (v := ?_) (a' := ?_) #[true, true, true, false, false, false, false, false] rfl rfl (by kernel_rfl) (fun _ _ _ h => h) (Or.inl ⟨by rfl, ?_⟩) ?_ ?_
  rotate_left
  · intro w'
    go_simp
    with_reducible rfl
  rotate_left
  · simp only [Act.put, List.setIfInBounds_toArray, List.set_cons_zero, List.set_cons_succ, i64_w, i32_w]
    rfl
  refine pure_ (i := 3) (N := some 10) (v := ?_) (a' := ?_) #[true, true, true, true, false, false, false, false] rfl rfl (by kernel_rfl) (fun _ _ _ h => h) (Or.inl ⟨by rfl, ?_⟩) ?_ ?_
  rotate_left
  · intro w'
    go_simp
    with_reducible rfl
  rotate_left
  · simp only [Act.put, List.setIfInBounds_toArray, List.set_cons_zero, List.set_cons_succ, i64_w, i32_w]
    rfl
  refine take_ (i := 4) (N := some 11) (v := ?_) (a' := ?_) #[true, true, true, true, true, false, false, false] rfl rfl (by kernel_rfl) (fun _ _ _ h => h) (Or.inl ⟨by rfl, ?_⟩) hHeld ?_ ?_
  rotate_left
  · rintro w' ⟨s0, s1, s2, s3, s4, s5, s6⟩
    go_simp
    with_reducible rfl
  rotate_left
  · simp only [Act.put, List.setIfInBounds_toArray, List.set_cons_zero, List.set_cons_succ, i64_w, i32_w]
    rfl
  refine take_ (i := 5) (N := some 12) (v := ?_) (a' := ?_) #[true, true, true, true, true, true, false, false] rfl rfl (by kernel_rfl) (fun _ _ _ h => h) (Or.inl ⟨by rfl, ?_⟩) hHeld ?_ ?_
  rotate_left
  · rintro w' ⟨s0, s1, s2, s3, s4, s5, s6⟩
    go_simp
    with_reducible rfl
  rotate_left
  · simp only [Act.put, List.setIfInBounds_toArray, List.set_cons_zero, List.set_cons_succ, i64_w, i32_w]
    rfl
  refine last_ (i := 6) (N := some 13) #[true, true, true, true, true, true, true, false] rfl rfl (by kernel_rfl) (by decide) (fun K hK => ?_)
  refine goes_ Try.func16 (by kernel_rfl) rfl #[ptr g1, .agg #[.int .i64 F, .int .i64 M]] (by rfl) rfl rfl (by simp only [List.map_toArray, List.map_cons, List.map_nil]; rfl) ?_
  with_reducible refine (dirt_mark g1 n x1 F M hn hx _ hHeld.2.2.2.2.1).mono ?_
  rintro e w2 ⟨rfl, hd, ho⟩
  refine ⟨_, rfl, ?_⟩
  have hT2 := Blk.only hHeld.2.2.2.2.2.1 ho (Ne.symm N1.out)
  have hD2 := Blk.only hHeld.2.2.2.2.2.2 ho (Ne.symm HH.out.2.2.2)
  have hO3 := (DeepG.of hHeld.2.2.2.1 HL.out).only HL.out HH.out.2.1 hHeld.2.2.2.2.1 (.inr rfl) ho
  refine hK.out _ _ ?_
  clear hK K
  refine norm_ (a' := ?_) ?_ ?_
  rotate_left
  · show Act.put _ (some 13) _ = _
    simp only [Act.put, List.setIfInBounds_toArray, List.set_cons_zero, List.set_cons_succ, i64_w, i32_w]
    rfl
  refine pure_ (i := 7) (N := some 4) (v := ?_) (a' := ?_) #[true, true, true, true, true, true, true, true] rfl rfl (by kernel_rfl) (fun _ _ _ h => h) (Or.inl ⟨by rfl, ?_⟩) ?_ ?_
  rotate_left
  · intro w'
    go_simp
    with_reducible rfl
  rotate_left
  · simp only [Act.put, List.setIfInBounds_toArray, List.set_cons_zero, List.set_cons_succ, i64_w, i32_w]
    rfl
  refine done_ (by kernel_rfl) ?_
  have HO3 := Aside0.mk hO3
  have HT2 := Aside0.mk hT2
  have HD2 := Aside0.mk hD2
  have HDn := Aside0.mk hd
  clear hO3 hT2 hD2 hd ho hHeld c0 b0 b1
  generalize hz : ((cnt (minus (markV n F M) x1) : Nat) : Int) = z at *
  go_wp2_with fail
  go_ret
  obtain ⟨h1, h2, h3, h4⟩ := HH.out
  exact ⟨by rw [hz]; rfl, ⟨g1, g2, h1, h2, h3, h4, HT2.out, HDn.out, HD2.out⟩, HO3.out⟩
set_option maxRecDepth 100000 in
set_option maxHeartbeats 800000 in
theorem trackg_freeze (G : Nat → Prop) (gt n x1 x2 : Nat) (l1 l2 b : Bool) (w : World) (hG : ∀ k, G k → k < w.heap.size) (h : TrackG w G gt n x1 x2 l1 l2 b) (hn : n ≤ 64) :
    Calls Try.prog 37 #[ptr gt] w fun e w' => e = .returned (.int .i64 (if b then 3 else 0)) ∧ (if b then TrackG w' G gt n x1 x2 l1 l2 b else TrackG w' G gt n 0 x1 false l1 true) ∧ DeepG G w w' := by
  have HL := Aside0.mk hG
  have HN := Aside0.mk (track_none 0 gt n x1 x2 l1 l2 b w h.at0)
  obtain ⟨g1, g2, h1, h2, h3, h4, ht, d1, d2⟩ := h
  have HT := Aside0.mk ht
  have HD1 := Aside0.mk d1
  have HD2 := Aside0.mk d2
  have N1 : Aside0 (g1 ≠ gt) := ⟨d1.ne ht (by decide)⟩
  have N2 : Aside0 (g2 ≠ gt) := ⟨d2.ne ht (by decide)⟩
  have HH : Aside0 (¬ G gt ∧ ¬ G g1 ∧ ¬ G g2 ∧ g1 ≠ g2) := ⟨⟨h1, h2, h3, h4⟩⟩
  clear ht d1 d2 h1 h2 h3 h4 hG
  cases b
  · skip
    go_enter Try.func37, Try.ntmps37
    go_wp2_with fail
    refine HN.out.mono ?_
    rintro e w1 ⟨rfl, hB⟩
    have HB1 := Aside0.mk hB
    have HT1 := Aside0.mk (HT.out.keep hB)
    have E1 := Aside0.mk (HD1.out.keep hB)
    have E2 := Aside0.mk (HD2.out.keep hB)
    clear hB HN HT HD1 HD2
    have c0 := HT1.out.cell (i := 0) rfl
    have c1 := HT1.out.cell (i := 1) rfl
    have c2 := HT1.out.cell (i := 2) rfl
    have c3 := HT1.out.cell (i := 3) rfl
    have c4 := HT1.out.cell (i := 4) rfl
    have f0 := HT1.out.frozen 0
    have f1 := HT1.out.frozen 1
    have f2 := HT1.out.frozen 2
    have f3 := HT1.out.frozen 3
    have f4 := HT1.out.frozen 4
    go_wp2_with fail
    refine (dirt_blocks g1 n x1 _ (((E1.out.far N1.out _).far N1.out _).far N1.out _)).mono ?_
    rintro e w2 ⟨rfl, hB⟩
    have HT2 : Aside0 (Blk w2 gt 109 #[ptr g1, .bool l1, ptr g1, .bool l1, .bool true]) := ⟨(((HT1.out.set_ 2 _).set_ 3 _).set_ 4 _).keep hB⟩
    have E12 := Aside0.mk ((((E1.out.far N1.out _).far N1.out _).far N1.out _).keep hB)
    have HB2 := Aside0.mk (((((DeepG.of HB1.out HL.out).set HH.out.1 HT1.out (.inl rfl) 2 _).set HH.out.1 (HT1.out.set_ 2 _) (.inl rfl) 3 _).set HH.out.1 ((HT1.out.set_ 2 _).set_ 3 _) (.inl rfl) 4 _).step HL.out hB)
    clear hB c0 c1 c2 c3 c4 f0 f1 f2 f3 f4 HB1 HT1 E1 E2
    go_wp2_with fail
    refine (dirt_new (n : Int) _).mono ?_
    rintro e w3 ⟨rfl, hd, hB⟩
    rw [show (min (max (n : Int) 0) 64).toNat = n by omega] at hd
    have HT3 := Aside0.mk (HT2.out.keep hB)
    have E13 := Aside0.mk (E12.out.keep hB)
    have HD3 := Aside0.mk hd
    have HB3 := Aside0.mk (HB2.out.step HL.out hB)
    have HG : Aside0 (¬ G w2.heap.size ∧ w2.heap.size ≠ g1) := ⟨⟨fun hk => by have q1 := HL.out _ hk; have q2 := HB2.out.size; omega, by have := E12.out.lt; omega⟩⟩
    have N3 : Aside0 (w2.heap.size ≠ gt) := ⟨hd.ne HT3.out (by decide)⟩
    have c0 := HT3.out.cell (i := 0) rfl
    have c1 := HT3.out.cell (i := 1) rfl
    have f0 := HT3.out.frozen 0
    have f1 := HT3.out.frozen 1
    clear hB hd HB2 HT2 E12
    generalize w2.heap.size = g3 at *
    go_wp2_with fail
    go_ret
    exact ⟨rfl, ⟨g3, g1, HH.out.1, HG.out.1, HH.out.2.1, HG.out.2, (HT3.out.set_ 0 _).set_ 1 _, (HD3.out.far N3.out _).far N3.out _, (E13.out.far N1.out _).far N1.out _⟩, (HB3.out.set HH.out.1 HT3.out (.inl rfl) 0 _).set HH.out.1 (HT3.out.set_ 0 _) (.inl rfl) 1 _⟩
  · skip
    go_enter Try.func37, Try.ntmps37
    go_wp2_with fail
    refine HN.out.mono ?_
    rintro e w1 ⟨rfl, hB⟩
    have HB1 := Aside0.mk hB
    have HT1 := Aside0.mk (HT.out.keep hB)
    have E1 := Aside0.mk (HD1.out.keep hB)
    have E2 := Aside0.mk (HD2.out.keep hB)
    clear hB HN HT HD1 HD2
    have c4 := HT1.out.cell (i := 4) rfl
    go_wp2_with fail
    go_ret
    obtain ⟨h1, h2, h3, h4⟩ := HH.out
    exact ⟨rfl, ⟨g1, g2, h1, h2, h3, h4, HT1.out, E1.out, E2.out⟩, DeepG.of HB1.out HL.out⟩
end Go.Proofs.Ytffemlfdhkndiaa.Hand
end
section
namespace Go.Proofs.Ytffemlfdhkndiaa.Hand
open Go.RowKit Go.Proofs.YtffemlfdhkndiaaW.PrintWords Go.Proofs.YtffemlfdhkndiaaW.PrintLast Go.Proofs.YtffemlfdhkndiaaW.PrintMore Go.Proofs.Ytffemlfdhkndiaa.A
set_option linter.unusedVariables false
set_option linter.unusedSimpArgs false
theorem wmem_cons (y : S31) (a : List S31) (k : Int) : wmem (y :: a) k ↔ (wh y.f0 y.f1 ∧ inSp y k) ∨ wmem a k := by
  unfold wmem
  constructor
  · rintro ⟨s, hs, h⟩
    rcases List.mem_cons.1 hs with rfl | hs
    · exact .inl h
    · exact .inr ⟨s, hs, h⟩
  · rintro (h | ⟨s, hs, h⟩)
    · exact ⟨y, List.mem_cons_self, h⟩
    · exact ⟨s, List.mem_cons_of_mem _ hs, h⟩
theorem putS_on (k : Nat) : ∀ (a : List S31) (s : List Bool), s.length = 64 → ((putS s a true).getD k false = true ↔ s.getD k false = true ∨ wmem a (k : Int))
  | [], s, _ => by
    show s.getD k false = true ↔ _
    unfold wmem; simp
  | y :: a, s, hs => by
    have ih := putS_on k a (putOne s y true) ((putOne_length s y true).trans hs)
    show (putS (putOne s y true) a true).getD k false = true ↔ _
    rw [ih, putOne_get _ _ _ _ hs, wmem_cons]
    unfold inSp
    by_cases h : wh y.f0 y.f1 ∧ y.f0 ≤ (k : Int) ∧ (k : Int) < y.f0 + y.f1
    · rw [if_pos h]; exact ⟨fun _ => .inr (.inl h), fun _ => .inl rfl⟩
    · rw [if_neg h]
      have h' : ¬ (wh y.f0 y.f1 ∧ y.f0 ≤ (k : Int) ∧ (k : Int) < y.f0 + y.f1) := h
      constructor
      · rintro (q | q)
        · exact .inl q
        · exact .inr (.inr q)
      · rintro (q | q | q)
        · exact .inl q
        · exact absurd q h'
        · exact .inr q
theorem putS_len (s : List Bool) (a : List S31) (on : Bool) (hs : s.length = 64) : (putS s a on).length = 64 := (putS_length a on s).trans hs
theorem spans_mem (s : List Bool) (k : Nat) (hk : k < 64) : mem (spansOf s) (k : Int) ↔ s.getD k false = true := by
  rw [spansOf_mem, Int.toNat_natCast]
  exact ⟨fun h => h.2.2, fun h => ⟨by omega, by omega, h⟩⟩
theorem spans_put (s : List Bool) (a : List S31) (hs : s.length = 64) : putV (spansOf s) a = spansOf (putS s a true) := by
  obtain ⟨h1, h2⟩ := putV_spec a (spansOf s) (spansOf_tidy s)
  refine tidy_eq h1 (fun k hk => ?_)
  rw [h2, spans_mem s k hk, putS_on k a s hs]
theorem bools_ext {s t : List Bool} (hs : s.length = 64) (ht : t.length = 64) (h : ∀ k, k < 64 → (s.getD k false = true ↔ t.getD k false = true)) : s = t := by
  apply List.ext_getElem (by omega)
  intro k h1 h2
  have a := h k (by omega)
  rw [List.getD_eq_getElem?_getD, List.getD_eq_getElem?_getD, List.getElem?_eq_getElem h1, List.getElem?_eq_getElem h2] at a
  revert a
  show (s[k] = true ↔ t[k] = true) → _
  cases s[k] <;> cases t[k] <;> simp
theorem spans_len (s : List Bool) : (spansOf s).length ≤ 65 := by have := (spansOf_tidy s).length (by decide); omega
theorem runs_count0 (base g : Nat) (w : World) (h : RunsAt w base g []) :
    Calls Try.prog 32 #[ptrR g] w fun e w' => e = .returned (.int .i64 0) ∧ Below w.heap.size w w' := runs_count base g [] w trivial h
/-- The first so many places as told, the others as they were. -/
def upS (f : Nat → Bool) (b : List Bool) (k : Nat) : List Bool := (List.range 64).map fun j => if j < k then f j else b.getD j false
theorem upS_length (f : Nat → Bool) (b : List Bool) (k : Nat) : (upS f b k).length = 64 := by unfold upS; simp
theorem upS_get (f : Nat → Bool) (b : List Bool) (k j : Nat) (hj : j < 64) : (upS f b k).getD j false = if j < k then f j else b.getD j false := by
  unfold upS
  rw [List.getD_eq_getElem?_getD, List.getElem?_map, List.getElem?_range hj]; rfl
theorem upS_zero (f : Nat → Bool) (b : List Bool) (hb : b.length = 64) : upS f b 0 = b := by
  apply List.ext_getElem?
  intro j
  by_cases hj : j < 64
  · unfold upS
    rw [List.getElem?_map, List.getElem?_range hj, List.getElem?_eq_getElem (by omega)]
    simp [List.getD_eq_getElem?_getD, List.getElem?_eq_getElem (show j < b.length by omega)]
  · rw [List.getElem?_eq_none (by rw [upS_length]; omega), List.getElem?_eq_none (by omega)]
theorem upS_step (f : Nat → Bool) (b : List Bool) (k : Nat) (hk : k < 64) : (upS f b k).set k (f k) = upS f b (k + 1) := by
  apply List.ext_getElem?
  intro j
  rw [List.getElem?_set]
  by_cases hj : j < 64
  · unfold upS
    rw [List.getElem?_map, List.getElem?_map, List.getElem?_range hj]
    by_cases e : k = j
    · subst e
      simp [hk]
    · rw [if_neg e]
      by_cases h : j < k
      · simp [h, show j < k + 1 by omega]
      · simp [h, show ¬ j < k + 1 by omega]
  · rw [if_neg (by omega), List.getElem?_eq_none (by rw [upS_length]; omega), List.getElem?_eq_none (by rw [upS_length]; omega)]
end Go.Proofs.Ytffemlfdhkndiaa.Hand
end
section
namespace Go.Proofs.Ytffemlfdhkndiaa.Hand
open Go.RowKit Go.Proofs.YtffemlfdhkndiaaW.PrintWords Go.Proofs.YtffemlfdhkndiaaW.PrintLast Go.Proofs.YtffemlfdhkndiaaW.PrintMore Go.Proofs.Ytffemlfdhkndiaa.A
set_option linter.unusedVariables false
set_option linter.unusedSimpArgs false
theorem runs_put_one (base g : Nat) (s : List Bool) (a : Addr) (c : Nat) (F M : Int) (w : World) (hs : s.length = 64) (h : RunsAt w base g (spansOf s)) (hbase : base ≤ w.heap.size) (hC : Kd.C k31 w (some a) 1 [⟨F, M⟩]) (hne : a.block ≠ g) :
    Calls Try.prog 31 #[ptrR g, .slice (some a) 1 c] w fun e w' => ∃ z : Int, e = .returned (.int .i64 z) ∧ RunsAt w' base g (spansOf (putS s [⟨F, M⟩] true)) ∧ Only w w' g := by
  refine (runs_put base g _ [⟨F, M⟩] (some a) c w (spansOf_tidy s) h hbase hC (fun _ b hb => by injection hb with hb; subst hb; exact hne)).mono ?_
  rintro e w' ⟨rfl, hr, ho⟩
  rw [spans_put s _ hs] at hr
  exact ⟨_, rfl, hr, ho⟩
end Go.Proofs.Ytffemlfdhkndiaa.Hand
end
section
namespace Go.Proofs.Ytffemlfdhkndiaa.Hand
open Go.RowKit Go.Proofs.YtffemlfdhkndiaaW.PrintWords Go.Proofs.YtffemlfdhkndiaaW.PrintLast Go.Proofs.YtffemlfdhkndiaaW.PrintMore Go.Proofs.Ytffemlfdhkndiaa.A Go.Proofs.Ytffemlfdhkndiaa.Bits
set_option linter.unusedVariables false
set_option linter.unusedSimpArgs false
attribute [local go_sem] max2_int min2_int max_two min_two max_three min_three max_four min_four
theorem cntB_succ (f : Nat → Bool) : ∀ n, cntB f (n + 1) = (if f 0 = true then 1 else 0) + cntB (fun k => f (k + 1)) n
  | 0 => by simp [cntB]
  | n + 1 => by
    rw [cntB, cntB_succ f n, cntB]
    omega
theorem sumd_cntB : ∀ n x, sumd 2 n x = cntB (fun k => x.testBit k) n
  | 0, _ => rfl
  | n + 1, x => by
    rw [cntB_succ]
    show x % 2 + sumd 2 n (x / 2) = _
    rw [sumd_cntB n (x / 2)]
    congr 1
    · rw [Nat.testBit_zero]
      rcases Nat.mod_two_eq_zero_or_one x with h | h <;> rw [h] <;> rfl
    · exact cntB_congr n (fun k _ => by rw [Nat.testBit_succ])
/-- No bit from a place on. -/
def Hi (n x : Nat) : Prop := ∀ i, n ≤ i → x.testBit i = false
theorem Hi.zero (n : Nat) : Hi n 0 := fun i _ => Nat.zero_testBit i
theorem Hi.or {n x y : Nat} (hx : Hi n x) (hy : Hi n y) : Hi n (x ||| y) := fun i hi => by rw [Nat.testBit_or, hx i hi, hy i hi]; rfl
theorem Hi.mark (n : Nat) (a m : Int) : Hi n (markV n a m) := fun i hi => by rw [markV_test, decide_eq_false (show ¬ i < n by omega), Bool.and_false]
theorem Hi.and {n y : Nat} : Hi n (y &&& ones 0 n) := fun i hi => by rw [Nat.testBit_and, ones_test, Nat.zero_add, decide_eq_false (show ¬ i < n by omega), Bool.and_false, Bool.and_false]
end Go.Proofs.Ytffemlfdhkndiaa.Hand
end
