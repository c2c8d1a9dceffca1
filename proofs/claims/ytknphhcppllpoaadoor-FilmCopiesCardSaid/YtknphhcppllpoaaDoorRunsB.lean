/- Sets of blocks as the program keeps them (runs): all, count, alike, has, next, walked. -/
import Derived.Test.YtknphhcppllpoaaDoorRuns
import Derived.Lib.SliceRun
import Derived.Test.YtknphhcppllpoaaDoorAx0
namespace Go.Proofs.YtknphhcppllpoaaDoor.Hand
open Go.RowKit Go.Proofs.YtknphhcppllpoaaDoorW.PrintWords Go.Proofs.YtknphhcppllpoaaDoorW.PrintLast Go.Proofs.YtknphhcppllpoaaDoorW.PrintMore Go.Proofs.YtknphhcppllpoaaDoor.A
set_option linter.unusedVariables false
set_option linter.unusedSimpArgs false
attribute [local go_sem] max2_int min2_int max_two min_two max_three min_three max_four min_four
theorem clone_nil (w : World) :
    Calls Tryd.prog 61 #[.slice none 0 0] w fun e w' => ∃ v, e = .returned v ∧ ORow w' w.heap.size v [] ∧ Below w.heap.size w w' := by
  have q0 := fun W => Lib.run_eql_slice_nil (P := Tryd.prog) W 49 55 none 0 0 0 0 Tryd.underlying49
  go_enter Tryd.func61, Tryd.ntmps61
  go_wp2_with fail
  go_ret
  exact ⟨_, rfl, ORow.nil _ _, Below.refl _ _⟩
set_option maxRecDepth 100000 in
theorem clone_some (a : Addr) (c : Nat) (l : List S55) (hn : l.length ≤ 1000000) (w : World) (hC : Kd.C k55 w (some a) l.length l) :
    Calls Tryd.prog 61 #[.slice (some a) l.length c] w fun e w' => ∃ v, e = .returned v ∧ ORow w' w.heap.size v l ∧ Below w.heap.size w w' := by
  have q0 := fun W => Lib.run_eql_slice_nil (P := Tryd.prog) W 49 55 (some a) l.length c 0 0 Tryd.underlying49
  have HC := Aside0.mk hC
  have Hn := Aside0.mk hn
  clear hC hn
  go_enter Tryd.func61, Tryd.ntmps61
  go_wp2_with ((with_reducible refine gate_builtin (b := .append) (xs := #[.tmp 5, .tmp 6]) rfl ?_); at_builtin; refine Kd.R_append_rows k55 (Rr := k55.K (w.alloc (.cells #[] 55))) (w0 := w) w.heap.size rfl (.tmp 5) (.tmp 6) 49 55 (.agg #[(.int .i64 0), (.int .i64 0)]) 16 rfl Tryd.underlying49 info55' rfl (by decide) (by decide) (.slice (some ⟨w.heap.size, 0, none⟩) 0 0) [] l (some a) l.length c (fun _ => True) (fun _ => False) rfl rfl ?aO ?aR ?aK (fun _ h => h.elim) (fun _ _ => trivial) ?aB ?aS ?aL ?_; (case aO => exact ⟨fun _ _ => trivial, [], World.ownsRow_lit w #[] 0 (Nat.le_refl _) (by decide) rfl, Reps.none _ _⟩); (case aR => exact Kd.C_below HC.out (below_alloc (Below.refl _ _) _)); (case aK => (intro x cs hk; rw [k55_open hk]; exact k55_mkM _ _ _ _)); (case aB => exact below_alloc (Below.refl _ _) _); (case aS => simp); (case aL => (have := Hn.out; simp only [List.length_nil]; omega)); intro v1 w1 ho hb hg hat; have HO := Aside0.mk (ORow.of_R ho); have HB := Aside0.mk hb; clear ho hb hg hat)
  obtain ⟨A1, c1, hv, _⟩ := HO.out.reads
  subst hv
  go_ret
  exact ⟨_, rfl, HO.out, HB.out⟩
set_option maxRecDepth 100000 in
theorem runs_all (base g : Nat) (l : List S55) (hn : l.length ≤ 1000000) (w : World) (h : RunsAt w base g l) :
    Calls Tryd.prog 27 #[ptrR g] w fun e w' => ∃ v, e = .returned v ∧ ORow w' w.heap.size v l ∧ Below w.heap.size w w' := by
  obtain ⟨v0, hb, ho⟩ := h
  have hcl : ∀ v0, ORow w base v0 l → Calls Tryd.prog 61 #[v0] w fun e w' => ∃ v, e = .returned v ∧ ORow w' w.heap.size v l ∧ Below w.heap.size w w' := by
    intro v0 ho
    obtain ⟨A, c, rfl, hlc, hC, _⟩ := ho.reads
    cases A with
    | none =>
      rcases ho.2 with ⟨he, h0⟩ | ⟨g', cap, cur, he, _⟩
      · obtain rfl : l = [] := List.eq_nil_of_length_eq_zero h0
        rw [he]; exact clone_nil w
      · cases he
    | some a => exact clone_some a c l hn w hC
  have Hcl := Aside0.mk (hcl v0 ho)
  obtain ⟨A, c, rfl, hlc, hC, _⟩ := ho.reads
  have c0 := hb.cell (i := 0) rfl
  clear hb ho hcl hC hlc
  go_enter Tryd.func27, Tryd.ntmps27
  go_wp2_with fail
  refine Hcl.out.mono ?_
  rintro e w1 ⟨v, rfl, ho, hB⟩
  have HO := Aside0.mk ho
  have HB := Aside0.mk hB
  clear ho hB
  obtain ⟨A1, c1, hv, _⟩ := HO.out.reads
  subst hv
  go_wp2_with fail
  go_ret
  exact ⟨_, rfl, HO.out, HB.out⟩
theorem runs_all_nil (w : World) :
    Calls Tryd.prog 27 #[.pointer none] w fun e w' => ∃ v, e = .returned v ∧ ORow w' w.heap.size v [] ∧ Below w.heap.size w w' := by
  go_enter Tryd.func27, Tryd.ntmps27
  go_wp2_with fail
  go_ret
  exact ⟨_, rfl, ORow.nil _ _, Below.refl _ _⟩
theorem sumN_step (l : List S55) (i : Nat) (h : i < l.length) : sumN (l.take (i + 1)) = sumN (l.take i) + l[i].f1 := by
  rw [List.take_succ_eq_append_getElem h, sumN_append, sumN_cons]; simp [sumN]
set_option maxRecDepth 100000 in
theorem runs_count_of (P0 : Value) (l : List S55) (w : World) (hT : Tidy 0 l) (ha : Calls Tryd.prog 27 #[P0] w fun e w' => ∃ v, e = .returned v ∧ ORow w' w.heap.size v l ∧ Below w.heap.size w w') :
    Calls Tryd.prog 58 #[P0] w fun e w' => e = .returned (.int .i64 (sumN l)) ∧ Below w.heap.size w w' := by
  have hlen := hT.length (by decide)
  have HT := Aside0.mk hT
  have Hc := Aside0.mk ha
  clear ha hT
  go_enter Tryd.func58, Tryd.ntmps58
  go_wp2_with fail
  refine Hc.out.mono ?_
  rintro e w1 ⟨v, rfl, ho, hB⟩
  obtain ⟨A, c, rfl, hlc, hC, _⟩ := ho.reads
  have HB1 := Aside0.mk hB
  have HC := Aside0.mk hC
  clear ho hC hB Hc hlc
  go_wp2_with fail
  go_loopg [3, 9] l.length (fun kq u v wq => ∃ i : Nat, i + kq = l.length ∧ v = .int .i64 (i : Int) ∧ u = .int .i64 (sumN (l.take i)) ∧ Aside0 (Below w1.heap.size w1 wq))
  case atStart => exact ⟨0, by omega, rfl, rfl, ⟨Below.refl _ _⟩⟩
  case round =>
    obtain ⟨i, hi, rfl, rfl, HB⟩ := hrel
    by_cases hlt : i < l.length
    · obtain ⟨ad, e1, x0, x1⟩ := at_T55 (Kd.C_below HC.out HB.out) (i : Int) (by omega) (by omega)
      subst e1
      rw [Int.toNat_natCast, rd_get l i hlt] at x0 x1
      have hlt' : (i : Int) < (l.length : Int) := by omega
      have hs := (HT.out.take i).sum (by decide)
      obtain ⟨hs0, hs1⟩ := hs
      have hw := HT.out.whole (Int.le_refl _) _ (List.getElem_mem hlt)
      obtain ⟨hw0, hw1, hw2⟩ := hw
      have hs2 := Aside0.mk (sumN_step l i hlt)
      generalize sumN (l.take i) = z at *
      generalize l[i] = X at *
      obtain ⟨F, M⟩ := X
      simp only at x0 x1 hw0 hw1 hw2 hs2
      obtain ⟨kk, rfl⟩ : ∃ z, gk = z + 1 := ⟨gk - 1, by omega⟩
      go_wp2_with fail
      go_roundg kk
      case measure => omega
      case rel => exact ⟨i + 1, by omega, by go_num, by rw [hs2.out], ⟨below_alloc HB.out _⟩⟩
    · have hlt' : ¬ (i : Int) < (l.length : Int) := by omega
      obtain rfl : i = l.length := by omega
      rw [List.take_length]
      go_wp2_with fail
      go_ret
      exact ⟨rfl, below_step HB1.out HB.out⟩
theorem runs_count (base g : Nat) (l : List S55) (w : World) (hT : Tidy 0 l) (h : RunsAt w base g l) :
    Calls Tryd.prog 58 #[ptrR g] w fun e w' => e = .returned (.int .i64 (sumN l)) ∧ Below w.heap.size w w' :=
  runs_count_of _ l w hT (runs_all base g l (by have := hT.length (by decide); omega) w h)
theorem runs_count_nil (w : World) : Calls Tryd.prog 58 #[.pointer none] w fun e w' => e = .returned (.int .i64 0) ∧ Below w.heap.size w w' :=
  runs_count_of _ [] w trivial (runs_all_nil w)
/-! ### alike -/
theorem drawn_below {w w1 : World} (h : Drawn0 w w1) : Below w.heap.size w w1 := by
  obtain ⟨n, rfl⟩ := h.out
  exact pw_below_drewN (Below.refl _ _) n
instance (x : S55) (k : Int) : Decidable (inSp x k) := by unfold inSp; infer_instance
/-- Whether a block is in one of them. -/
def memB (l : List S55) (k : Int) : Bool := l.any fun x => decide (inSp x k)
theorem memB_iff (l : List S55) (k : Int) : memB l k = true ↔ mem l k := by
  unfold memB mem
  rw [List.any_eq_true]
  constructor
  · rintro ⟨x, h, hk⟩
    exact ⟨x, h, of_decide_eq_true hk⟩
  · rintro ⟨x, h, hk⟩
    exact ⟨x, h, decide_eq_true hk⟩
theorem memB_snoc (l : List S55) (i : Nat) (k : Int) (h : i < l.length) : memB (l.take (i + 1)) k = (memB (l.take i) k || decide (inSp l[i] k)) := by
  unfold memB
  rw [List.take_succ_eq_append_getElem h, List.any_append]; simp
theorem memB_of (l : List S55) (i : Nat) (k : Int) (h : i < l.length) (hk : inSp l[i] k) : memB l k = true := (memB_iff l k).2 ⟨_, List.getElem_mem h, hk⟩
/-- The first blocks from one on. -/
def nextV : List S55 → Int → Int × Int × Bool
  | [], _ => (0, 0, false)
  | x :: l, from_ => if from_ < x.f0 + x.f1 then (max x.f0 from_, x.f0 + x.f1 - max x.f0 from_, true) else nextV l from_
theorem nextV_skip : ∀ (l : List S55) (k : Int) (i : Nat), (∀ j, (h : j < l.length) → j < i → ¬ k < l[j].f0 + l[j].f1) → nextV l k = nextV (l.drop i) k
  | l, k, 0, _ => by rw [List.drop_zero]
  | [], k, i + 1, _ => by simp
  | x :: l, k, i + 1, h => by
    have h0 := h 0 (by simp) (by omega)
    simp only [List.getElem_cons_zero] at h0
    show (if k < x.f0 + x.f1 then _ else nextV l k) = _
    rw [if_neg h0]
    exact nextV_skip l k i (fun j hj hji => by have := h (j + 1) (by simp; omega) (by omega); simpa using this)
theorem nextV_at (l : List S55) (k : Int) (i : Nat) (hl : i < l.length) (h : ∀ j, (h : j < l.length) → j < i → ¬ k < l[j].f0 + l[j].f1) (hk : k < l[i].f0 + l[i].f1) : nextV l k = (max l[i].f0 k, l[i].f0 + l[i].f1 - max l[i].f0 k, true) := by
  rw [nextV_skip l k i h, List.drop_eq_getElem_cons hl]
  show (if _ then _ else _) = _
  rw [if_pos hk]
theorem nextV_none (l : List S55) (k : Int) (h : ∀ j, (h : j < l.length) → ¬ k < l[j].f0 + l[j].f1) : nextV l k = (0, 0, false) := by
  rw [nextV_skip l k l.length (fun j hj _ => h j hj), List.drop_length]; rfl
end Go.Proofs.YtknphhcppllpoaaDoor.Hand
