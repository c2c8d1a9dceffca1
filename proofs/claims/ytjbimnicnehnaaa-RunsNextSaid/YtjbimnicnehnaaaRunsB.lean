/- Sets of blocks as the program keeps them (runs): all, count, alike, has, next, walked. -/
import Derived.Test.YtjbimnicnehnaaaRuns
import Derived.Lib.SliceRun
import Derived.Test.YtjbimnicnehnaaaAx0
import Derived.Test.YtjbimnicnehnaaaAx11
import Derived.Test.YtjbimnicnehnaaaAx24
import Derived.Test.YtjbimnicnehnaaaAx5
namespace Go.Proofs.Ytjbimnicnehnaaa.Hand
open Go.RowKit Go.Proofs.YtjbimnicnehnaaaW.PrintWords Go.Proofs.YtjbimnicnehnaaaW.PrintLast Go.Proofs.YtjbimnicnehnaaaW.PrintMore Go.Proofs.Ytjbimnicnehnaaa.A
set_option linter.unusedVariables false
set_option linter.unusedSimpArgs false
attribute [local go_sem] max2_int min2_int max_two min_two max_three min_three max_four min_four
theorem clone_nil (w : World) :
    Calls Try.prog 76 #[.slice none 0 0] w fun e w' => ∃ v, e = .returned v ∧ ORow w' w.heap.size v [] ∧ Below w.heap.size w w' := by
  have q0 := fun W => Lib.run_eql_slice_nil (P := Try.prog) W 31 24 none 0 0 0 0 Try.underlying31
  go_enter Try.func76, Try.ntmps76
  go_wp2_with fail
  go_ret
  exact ⟨_, rfl, ORow.nil _ _, Below.refl _ _⟩
set_option maxRecDepth 100000 in
theorem clone_some (a : Addr) (c : Nat) (l : List S24) (hn : l.length ≤ 1000000) (w : World) (hC : Kd.C k24 w (some a) l.length l) :
    Calls Try.prog 76 #[.slice (some a) l.length c] w fun e w' => ∃ v, e = .returned v ∧ ORow w' w.heap.size v l ∧ Below w.heap.size w w' := by
  have q0 := fun W => Lib.run_eql_slice_nil (P := Try.prog) W 31 24 (some a) l.length c 0 0 Try.underlying31
  have HC := Aside0.mk hC
  have Hn := Aside0.mk hn
  clear hC hn
  go_enter Try.func76, Try.ntmps76
  go_wp2_with ((with_reducible refine gate_builtin (b := .append) (xs := #[.tmp 5, .tmp 6]) rfl ?_); at_builtin; refine Kd.R_append_rows k24 (Rr := k24.K (w.alloc (.cells #[] 24))) (w0 := w) w.heap.size rfl (.tmp 5) (.tmp 6) 31 24 (.agg #[(.int .i64 0), (.int .i64 0)]) 16 rfl Try.underlying31 info24' rfl (by decide) (by decide) (.slice (some ⟨w.heap.size, 0, none⟩) 0 0) [] l (some a) l.length c (fun _ => True) (fun _ => False) rfl rfl ?aO ?aR ?aK (fun _ h => h.elim) (fun _ _ => trivial) ?aB ?aS ?aL ?_; (case aO => exact ⟨fun _ _ => trivial, [], World.ownsRow_lit w #[] 0 (Nat.le_refl _) (by decide) rfl, Reps.none _ _⟩); (case aR => exact Kd.C_below HC.out (below_alloc (Below.refl _ _) _)); (case aK => (intro x cs hk; rw [k24_open hk]; exact k24_mkM _ _ _ _)); (case aB => exact below_alloc (Below.refl _ _) _); (case aS => simp); (case aL => (have := Hn.out; simp only [List.length_nil]; omega)); intro v1 w1 ho hb hg hat; have HO := Aside0.mk (ORow.of_R ho); have HB := Aside0.mk hb; clear ho hb hg hat)
  obtain ⟨A1, c1, hv, _⟩ := HO.out.reads
  subst hv
  go_ret
  exact ⟨_, rfl, HO.out, HB.out⟩
set_option maxRecDepth 100000 in
theorem runs_all (base g : Nat) (l : List S24) (hn : l.length ≤ 1000000) (w : World) (h : RunsAt w base g l) :
    Calls Try.prog 38 #[ptrR g] w fun e w' => ∃ v, e = .returned v ∧ ORow w' w.heap.size v l ∧ Below w.heap.size w w' := by
  obtain ⟨v0, hb, ho⟩ := h
  have hcl : ∀ v0, ORow w base v0 l → Calls Try.prog 76 #[v0] w fun e w' => ∃ v, e = .returned v ∧ ORow w' w.heap.size v l ∧ Below w.heap.size w w' := by
    intro v0 ho
    obtain ⟨A, c, rfl, hlc, hC, _⟩ := ho.reads
    cases A with
    | none =>
      rcases ho.2 with ⟨he, h0⟩ | ⟨g', cap, cur, he, _⟩
      · obtain rfl : l = [] := List.eq_nil_of_length_eq_zero h0
        rw [he]; exact clone_nil w
      · cases he
    | some a => exact clone_some a c l hn w hC
  have Hcl := Aside0.mk (hcl v0 ho)
  obtain ⟨A, c, rfl, hlc, hC, _⟩ := ho.reads
  have c0 := hb.cell (i := 0) rfl
  clear hb ho hcl hC hlc
  go_enter Try.func38, Try.ntmps38
  go_wp2_with fail
  refine Hcl.out.mono ?_
  rintro e w1 ⟨v, rfl, ho, hB⟩
  have HO := Aside0.mk ho
  have HB := Aside0.mk hB
  clear ho hB
  obtain ⟨A1, c1, hv, _⟩ := HO.out.reads
  subst hv
  go_wp2_with fail
  go_ret
  exact ⟨_, rfl, HO.out, HB.out⟩
theorem runs_all_nil (w : World) :
    Calls Try.prog 38 #[.pointer none] w fun e w' => ∃ v, e = .returned v ∧ ORow w' w.heap.size v [] ∧ Below w.heap.size w w' := by
  go_enter Try.func38, Try.ntmps38
  go_wp2_with fail
  go_ret
  exact ⟨_, rfl, ORow.nil _ _, Below.refl _ _⟩
theorem sumN_step (l : List S24) (i : Nat) (h : i < l.length) : sumN (l.take (i + 1)) = sumN (l.take i) + l[i].f1 := by
  rw [List.take_succ_eq_append_getElem h, sumN_append, sumN_cons]; simp [sumN]
set_option maxRecDepth 100000 in
theorem runs_count_of (P0 : Value) (l : List S24) (w : World) (hT : Tidy 0 l) (ha : Calls Try.prog 38 #[P0] w fun e w' => ∃ v, e = .returned v ∧ ORow w' w.heap.size v l ∧ Below w.heap.size w w') :
    Calls Try.prog 33 #[P0] w fun e w' => e = .returned (.int .i64 (sumN l)) ∧ Below w.heap.size w w' := by
  have hlen := hT.length (by decide)
  have HT := Aside0.mk hT
  have Hc := Aside0.mk ha
  clear ha hT
  go_enter Try.func33, Try.ntmps33
  go_wp2_with fail
  refine Hc.out.mono ?_
  rintro e w1 ⟨v, rfl, ho, hB⟩
  obtain ⟨A, c, rfl, hlc, hC, _⟩ := ho.reads
  have HB1 := Aside0.mk hB
  have HC := Aside0.mk hC
  clear ho hC hB Hc hlc
  go_wp2_with fail
  go_loopg [3, 9] l.length (fun kq u v wq => ∃ i : Nat, i + kq = l.length ∧ v = .int .i64 (i : Int) ∧ u = .int .i64 (sumN (l.take i)) ∧ Aside0 (Below w1.heap.size w1 wq))
  case atStart => exact ⟨0, by omega, rfl, rfl, ⟨Below.refl _ _⟩⟩
  case round =>
    obtain ⟨i, hi, rfl, rfl, HB⟩ := hrel
    by_cases hlt : i < l.length
    · obtain ⟨ad, e1, x0, x1⟩ := at_T24 (Kd.C_below HC.out HB.out) (i : Int) (by omega) (by omega)
      subst e1
      rw [Int.toNat_natCast, rd_get l i hlt] at x0 x1
      have hlt' : (i : Int) < (l.length : Int) := by omega
      have hs := (HT.out.take i).sum (by decide)
      obtain ⟨hs0, hs1⟩ := hs
      have hw := HT.out.whole (Int.le_refl _) _ (List.getElem_mem hlt)
      obtain ⟨hw0, hw1, hw2⟩ := hw
      have hs2 := Aside0.mk (sumN_step l i hlt)
      generalize sumN (l.take i) = z at *
      generalize l[i] = X at *
      obtain ⟨F, M⟩ := X
      simp only at x0 x1 hw0 hw1 hw2 hs2
      obtain ⟨kk, rfl⟩ : ∃ z, gk = z + 1 := ⟨gk - 1, by omega⟩
      go_wp2_with fail
      go_roundg kk
      case measure => omega
      case rel => exact ⟨i + 1, by omega, by go_num, by rw [hs2.out], ⟨below_alloc HB.out _⟩⟩
    · have hlt' : ¬ (i : Int) < (l.length : Int) := by omega
      obtain rfl : i = l.length := by omega
      rw [List.take_length]
      go_wp2_with fail
      go_ret
      exact ⟨rfl, below_step HB1.out HB.out⟩
theorem runs_count (base g : Nat) (l : List S24) (w : World) (hT : Tidy 0 l) (h : RunsAt w base g l) :
    Calls Try.prog 33 #[ptrR g] w fun e w' => e = .returned (.int .i64 (sumN l)) ∧ Below w.heap.size w w' :=
  runs_count_of _ l w hT (runs_all base g l (by have := hT.length (by decide); omega) w h)
theorem runs_count_nil (w : World) : Calls Try.prog 33 #[.pointer none] w fun e w' => e = .returned (.int .i64 0) ∧ Below w.heap.size w w' :=
  runs_count_of _ [] w trivial (runs_all_nil w)
/-! ### alike -/
theorem eq_l0 (l l' : List S24) (hl : l.length = l'.length) (hm : l.length < 1000000) : ∀ (k i : Nat), l.length < i + k → i ≤ l.length → api_Span_74.l0 k l l' (l.length : Int) (i : Int) = some (decide (l.drop i = l'.drop i))
  | 0, i, h, hi => by omega
  | k + 1, i, h, hi => by
    unfold api_Span_74.l0
    by_cases hlt : i < l.length
    · rw [if_pos (by omega), if_pos (by omega), if_pos (by omega), if_pos (by omega), rd_get l i hlt, rd_get l' i (by omega)]
      have d1 := List.drop_eq_getElem_cons hlt
      have d2 := List.drop_eq_getElem_cons (show i < l'.length by omega)
      have ih := eq_l0 l l' hl hm k (i + 1) (by omega) (by omega)
      have e : wrap64 ((i : Int) + 1) = ((i + 1 : Nat) : Int) := by rw [w_id (by omega) (by omega)]; omega
      rw [e, ih]
      by_cases hx : l[i] = l'[i]
      · rw [hx, if_neg (by simp)]
        congr 1
        rw [decide_eq_decide, d1, d2, List.cons.injEq]
        exact ⟨fun h => ⟨hx, h⟩, fun h => h.2⟩
      · rw [if_pos (by
          have : ¬ (l[i].f0 = l'[i].f0 ∧ l[i].f1 = l'[i].f1) := fun h => hx (by cases hq : l[i]; cases hr : l'[i]; simp_all)
          simp only [Bool.or_eq_true, Bool.not_eq_true', beq_eq_false_iff_ne, ne_eq]
          by_cases h0 : l[i].f0 = l'[i].f0
          · exact .inr (fun h1 => this ⟨h0, h1⟩)
          · exact .inl h0)]
        congr 1
        exact (decide_eq_false (fun h => by rw [d1, d2, List.cons.injEq] at h; exact hx h.1)).symm
    · rw [if_neg (by omega), List.drop_eq_nil_of_le (show l.length ≤ i by omega), List.drop_eq_nil_of_le (show l'.length ≤ i by omega)]; rfl
theorem eq_f (l l' : List S24) (hm : l.length < 1000000) : api_Span_74.f (l.length + 1) l l' = some (decide (l = l')) := by
  unfold api_Span_74.f
  by_cases h : l.length = l'.length
  · rw [if_pos (by omega)]
    have := eq_l0 l l' h hm (l.length + 1) 0 (by omega) (by omega)
    simpa using this
  · rw [if_neg (by omega)]
    have : l ≠ l' := fun e => h (by rw [e])
    simp [this]
theorem drawn_below {w w1 : World} (h : Drawn0 w w1) : Below w.heap.size w w1 := by
  obtain ⟨n, rfl⟩ := h.out
  exact pw_below_drewN (Below.refl _ _) n
set_option maxRecDepth 100000 in
theorem runs_same (base g base' g' : Nat) (l l' : List S24) (w : World) (hT : Tidy 0 l) (hT' : Tidy 0 l') (h : RunsAt w base g l) (h' : RunsAt w base' g' l') :
    Calls Try.prog 34 #[ptrR g, ptrR g'] w fun e w' => e = .returned (.bool (decide (l = l'))) ∧ Below w.heap.size w w' := by
  have hlen := hT.length (by decide)
  have hlen' := hT'.length (by decide)
  have H := Aside0.mk h
  have H' := Aside0.mk h'
  have Hq := Aside0.mk (eq_f l l' (by omega))
  generalize decide (l = l') = b at *
  clear h h' hT hT'
  go_enter Try.func34, Try.ntmps34
  go_wp2_with fail
  refine (runs_all base g l (by omega) w H.out).mono ?_
  rintro e w1 ⟨v, rfl, ho, hB⟩
  obtain ⟨A, c, rfl, hlc, hC, _⟩ := ho.reads
  have HB1 := Aside0.mk hB
  have HC := Aside0.mk hC
  have Hlc := Aside0.mk hlc
  clear ho hC hB hlc
  go_wp2_with fail
  refine (runs_all base' g' l' (by omega) w1 (H'.out.keep HB1.out)).mono ?_
  rintro e w2 ⟨v, rfl, ho, hB⟩
  obtain ⟨A', c', rfl, hlc, hC, _⟩ := ho.reads
  have HB2 : Aside0 (Below w.heap.size w w2) := ⟨below_step HB1.out hB⟩
  have HC1 := Aside0.mk (Kd.C_below HC.out hB)
  have HC2 := Aside0.mk hC
  have Hlc2 := Aside0.mk hlc
  clear ho hC hB hlc
  go_wp2_with fail
  refine (api_Span_74.calls (l.length + 1) A c l A' c' l' _ _ HC1.out Hlc.out HC2.out Hlc2.out Hq.out).mono ?_
  rintro e w3 ⟨rfl, hd⟩
  have HB3 : Aside0 (Below w.heap.size w w3) := ⟨below_step HB2.out (drawn_below hd)⟩
  clear hd
  go_wp2_with fail
  go_ret
  exact ⟨rfl, HB3.out⟩
instance (x : S24) (k : Int) : Decidable (inSp x k) := by unfold inSp; infer_instance
/-- Whether a block is in one of them. -/
def memB (l : List S24) (k : Int) : Bool := l.any fun x => decide (inSp x k)
theorem memB_iff (l : List S24) (k : Int) : memB l k = true ↔ mem l k := by
  unfold memB mem
  rw [List.any_eq_true]
  constructor
  · rintro ⟨x, h, hk⟩
    exact ⟨x, h, of_decide_eq_true hk⟩
  · rintro ⟨x, h, hk⟩
    exact ⟨x, h, decide_eq_true hk⟩
theorem memB_snoc (l : List S24) (i : Nat) (k : Int) (h : i < l.length) : memB (l.take (i + 1)) k = (memB (l.take i) k || decide (inSp l[i] k)) := by
  unfold memB
  rw [List.take_succ_eq_append_getElem h, List.any_append]; simp
theorem memB_of (l : List S24) (i : Nat) (k : Int) (h : i < l.length) (hk : inSp l[i] k) : memB l k = true := (memB_iff l k).2 ⟨_, List.getElem_mem h, hk⟩
set_option maxRecDepth 100000 in
theorem runs_has_of (P0 : Value) (l : List S24) (k : Int) (w : World) (hT : Tidy 0 l) (ha : Calls Try.prog 38 #[P0] w fun e w' => ∃ v, e = .returned v ∧ ORow w' w.heap.size v l ∧ Below w.heap.size w w') :
    Calls Try.prog 42 #[P0, .int .i64 k] w fun e w' => e = .returned (.bool (memB l k)) ∧ Below w.heap.size w w' := by
  have hlen := hT.length (by decide)
  have HT := Aside0.mk hT
  have Hc := Aside0.mk ha
  have Hm : Aside0 (∀ i, (h : i < l.length) → inSp l[i] k → memB l k = true) := ⟨fun i h => memB_of l i k h⟩
  have Hn : Aside0 ((∀ i, (h : i < l.length) → ¬ inSp l[i] k) → memB l k = false) := ⟨fun h => by
    cases hb : memB l k
    · rfl
    · obtain ⟨x, hx, hk⟩ := (memB_iff l k).1 hb
      obtain ⟨i, hi, rfl⟩ := List.getElem_of_mem hx
      exact absurd hk (h i hi)⟩
  generalize memB l k = b at *
  clear ha hT
  go_enter Try.func42, Try.ntmps42
  go_wp2_with fail
  refine Hc.out.mono ?_
  rintro e w1 ⟨v, rfl, ho, hB⟩
  obtain ⟨A, c, rfl, hlc, hC, _⟩ := ho.reads
  have HB1 := Aside0.mk hB
  have HC := Aside0.mk hC
  clear ho hC hB Hc hlc
  go_wp2_with fail
  go_loopg [10] l.length (fun kq v wq => ∃ i : Nat, i + kq = l.length ∧ v = .int .i64 (i : Int) ∧ Aside0 (∀ j, (h : j < l.length) → j < i → ¬ inSp l[j] k) ∧ Aside0 (Below w1.heap.size w1 wq))
  case atStart => exact ⟨0, by omega, rfl, ⟨fun j _ h => by omega⟩, ⟨Below.refl _ _⟩⟩
  case round =>
    obtain ⟨i, hi, rfl, HJ, HB⟩ := hrel
    by_cases hlt : i < l.length
    · obtain ⟨ad, e1, x0, x1⟩ := at_T24 (Kd.C_below HC.out HB.out) (i : Int) (by omega) (by omega)
      subst e1
      rw [Int.toNat_natCast, rd_get l i hlt] at x0 x1
      have hlt' : (i : Int) < (l.length : Int) := by omega
      have hw := Aside0.mk (HT.out.whole (Int.le_refl _) _ (List.getElem_mem hlt))
      have hmi := Aside0.mk (Hm.out i hlt)
      have hnx : Aside0 (¬ inSp l[i] k → ∀ j, (h : j < l.length) → j < i + 1 → ¬ inSp l[j] k) := ⟨fun hx j h hj => by
        by_cases e : j = i
        · subst e; exact hx
        · exact HJ.out j h (by omega)⟩
      have Hh := Aside0.mk (has_eq l[i].f0 l[i].f1 k)
      obtain ⟨kk, rfl⟩ : ∃ z, gk = z + 1 := ⟨gk - 1, by omega⟩
      by_cases hk : inSp l[i] k
      · have Hh2 : Aside0 (span_Has.f l[i].f0 l[i].f1 k = some true) := ⟨by rw [Hh.out, decide_eq_true ⟨hw.out, hk⟩]⟩
        have hb : b = true := hmi.out hk
        subst hb
        clear hk hnx
        generalize l[i] = X at *
        obtain ⟨F, M⟩ := X
        simp only at x0 x1 Hh2
        go_wp2_with fail
        refine (span_Has.calls F M k true _ Hh2.out).mono ?_
        rintro e w2 ⟨rfl, hB⟩
        have HB2 : Aside0 (Below w.heap.size w w2) := ⟨below_step (below_step HB1.out (below_alloc HB.out _)) hB⟩
        clear hB x0 x1
        go_wp2_with fail
        go_ret
        exact ⟨rfl, HB2.out⟩
      · have Hh2 : Aside0 (span_Has.f l[i].f0 l[i].f1 k = some false) := ⟨by rw [Hh.out, decide_eq_false (fun h => hk h.2)]⟩
        replace hnx := Aside0.mk (hnx.out hk)
        clear hk hmi
        generalize l[i] = X at *
        obtain ⟨F, M⟩ := X
        simp only at x0 x1 Hh2
        go_wp2_with fail
        refine (span_Has.calls F M k false _ Hh2.out).mono ?_
        rintro e w2 ⟨rfl, hB⟩
        have HB2 : Aside0 (Below w1.heap.size w1 w2) := ⟨below_step (below_alloc HB.out _) hB⟩
        clear hB x0 x1
        go_wp2_with fail
        go_roundg kk
        case measure => omega
        case rel => exact ⟨i + 1, by omega, by go_num, hnx, HB2⟩
    · have hlt' : ¬ (i : Int) < (l.length : Int) := by omega
      have hb : b = false := Hn.out (fun j h => HJ.out j h (by omega))
      subst hb
      go_wp2_with fail
      go_ret
      exact ⟨rfl, below_step HB1.out HB.out⟩
theorem runs_has (base g : Nat) (l : List S24) (k : Int) (w : World) (hT : Tidy 0 l) (h : RunsAt w base g l) :
    Calls Try.prog 42 #[ptrR g, .int .i64 k] w fun e w' => e = .returned (.bool (memB l k)) ∧ Below w.heap.size w w' :=
  runs_has_of _ l k w hT (runs_all base g l (by have := hT.length (by decide); omega) w h)
theorem runs_has_nil (k : Int) (w : World) : Calls Try.prog 42 #[.pointer none, .int .i64 k] w fun e w' => e = .returned (.bool false) ∧ Below w.heap.size w w' :=
  runs_has_of _ [] k w trivial (runs_all_nil w)
set_option maxRecDepth 100000 in
theorem runs_copy_of (P0 : Value) (l : List S24) (w : World) (ha : Calls Try.prog 38 #[P0] w fun e w' => ∃ v, e = .returned v ∧ ORow w' w.heap.size v l ∧ Below w.heap.size w w') :
    Calls Try.prog 41 #[P0] w fun e w' => ∃ g, e = .returned (ptrR g) ∧ w.heap.size ≤ g ∧ RunsAt w' w.heap.size g l ∧ Below w.heap.size w w' := by
  have Hc := Aside0.mk ha
  clear ha
  go_enter Try.func41, Try.ntmps41
  go_wp2_with fail
  refine Hc.out.mono ?_
  rintro e w1 ⟨v, rfl, ho, hB⟩
  have HO := Aside0.mk ho
  obtain ⟨A, c, rfl, hlc, hC, _⟩ := ho.reads
  have HB1 := Aside0.mk hB
  clear ho hC hB Hc hlc
  go_wp2_with fail
  go_ret
  exact ⟨_, rfl, below_size HB1.out, ⟨_, Blk.new _ _ _, own_alloc HO.out _⟩, below_alloc HB1.out _⟩
/-- The first blocks from one on. -/
def nextV : List S24 → Int → Int × Int × Bool
  | [], _ => (0, 0, false)
  | x :: l, from_ => if from_ < x.f0 + x.f1 then (max x.f0 from_, x.f0 + x.f1 - max x.f0 from_, true) else nextV l from_
theorem nextV_skip : ∀ (l : List S24) (k : Int) (i : Nat), (∀ j, (h : j < l.length) → j < i → ¬ k < l[j].f0 + l[j].f1) → nextV l k = nextV (l.drop i) k
  | l, k, 0, _ => by rw [List.drop_zero]
  | [], k, i + 1, _ => by simp
  | x :: l, k, i + 1, h => by
    have h0 := h 0 (by simp) (by omega)
    simp only [List.getElem_cons_zero] at h0
    show (if k < x.f0 + x.f1 then _ else nextV l k) = _
    rw [if_neg h0]
    exact nextV_skip l k i (fun j hj hji => by have := h (j + 1) (by simp; omega) (by omega); simpa using this)
theorem nextV_at (l : List S24) (k : Int) (i : Nat) (hl : i < l.length) (h : ∀ j, (h : j < l.length) → j < i → ¬ k < l[j].f0 + l[j].f1) (hk : k < l[i].f0 + l[i].f1) : nextV l k = (max l[i].f0 k, l[i].f0 + l[i].f1 - max l[i].f0 k, true) := by
  rw [nextV_skip l k i h, List.drop_eq_getElem_cons hl]
  show (if _ then _ else _) = _
  rw [if_pos hk]
theorem nextV_none (l : List S24) (k : Int) (h : ∀ j, (h : j < l.length) → ¬ k < l[j].f0 + l[j].f1) : nextV l k = (0, 0, false) := by
  rw [nextV_skip l k l.length (fun j hj _ => h j hj), List.drop_length]; rfl
set_option maxRecDepth 100000 in
theorem runs_next_of (P0 : Value) (l : List S24) (k : Int) (hk0 : -9223372036854775808 ≤ k) (hk1 : k ≤ 9223372036854775807) (w : World) (hT : Tidy 0 l) (ha : ∀ W, Below w.heap.size w W → Calls Try.prog 38 #[P0] W fun e w' => ∃ v, e = .returned v ∧ ORow w' W.heap.size v l ∧ Below W.heap.size W w') :
    Calls Try.prog 32 #[P0, .int .i64 k] w fun e w' => e = .returned (.tuple #[.agg #[.int .i64 (nextV l k).1, .int .i64 (nextV l k).2.1], .bool (nextV l k).2.2]) ∧ Below w.heap.size w w' := by
  have hlen := hT.length (by decide)
  have HT := Aside0.mk hT
  have Hc := Aside0.mk ha
  clear ha hT
  go_enter Try.func32, Try.ntmps32
  go_wp2_with fail
  refine (Hc.out _ (below_alloc (Below.refl _ _) _)).mono ?_
  rintro e w1 ⟨v, rfl, ho, hB⟩
  obtain ⟨A, c, rfl, hlc, hC, _⟩ := ho.reads
  have HB1 : Aside0 (Below w.heap.size w w1) := ⟨below_step (below_alloc (Below.refl _ _) _) hB⟩
  have HZ1 : Aside0 (Blk w1 w.heap.size 24 #[.int .i64 0, .int .i64 0]) := ⟨(Blk.new w _ _).keep hB⟩
  have HC := Aside0.mk hC
  clear ho hC hB Hc hlc
  go_wp2_with fail
  go_loopg [12] l.length (fun kq v wq => ∃ i : Nat, i + kq = l.length ∧ v = .int .i64 (i : Int) ∧ Aside0 (∀ j, (h : j < l.length) → j < i → ¬ k < l[j].f0 + l[j].f1) ∧ Aside0 (Below w1.heap.size w1 wq))
  case atStart => exact ⟨0, by omega, rfl, ⟨fun j _ h => by omega⟩, ⟨Below.refl _ _⟩⟩
  case round =>
    obtain ⟨i, hi, rfl, HJ, HB⟩ := hrel
    have HZ2 := Aside0.mk (HZ1.out.keep HB.out)
    have HB2 : Aside0 (Below w.heap.size w wr) := ⟨below_step HB1.out HB.out⟩
    by_cases hlt : i < l.length
    · obtain ⟨ad, e1, x0, x1⟩ := at_T24 (Kd.C_below HC.out HB.out) (i : Int) (by omega) (by omega)
      subst e1
      rw [Int.toNat_natCast, rd_get l i hlt] at x0 x1
      have hlt' : (i : Int) < (l.length : Int) := by omega
      have hw := HT.out.whole (Int.le_refl _) _ (List.getElem_mem hlt)
      have hat := Aside0.mk (nextV_at l k i hlt HJ.out)
      have hnx : Aside0 (¬ k < l[i].f0 + l[i].f1 → ∀ j, (h : j < l.length) → j < i + 1 → ¬ k < l[j].f0 + l[j].f1) := ⟨fun hx j h hj => by
        by_cases e : j = i
        · subst e; exact hx
        · exact HJ.out j h (by omega)⟩
      have He : Aside0 (span_End.f l[i].f0 l[i].f1 = some (l[i].f0 + l[i].f1)) := ⟨by rw [end_eq]; unfold endV; rw [if_pos hw]⟩
      generalize l[i] = X at *
      obtain ⟨F, M⟩ := X
      simp only at x0 x1 hw hat hnx He
      obtain ⟨hw0, hw1, hw2⟩ := hw
      obtain ⟨kk, rfl⟩ : ∃ z, gk = z + 1 := ⟨gk - 1, by omega⟩
      by_cases hk : k < F + M
      · replace hat := Aside0.mk (hat.out hk)
        go_wp2_with fail
        refine (span_End.calls F M (F + M) _ He.out).mono ?_
        rintro e w2 ⟨rfl, hB⟩
        have HB3 : Aside0 (Below w.heap.size w w2) := ⟨below_step (below_alloc HB2.out _) hB⟩
        have HZ3 : Aside0 (Blk w2 w.heap.size 24 #[.int .i64 0, .int .i64 0]) := ⟨(HZ2.out.alloc _).keep hB⟩
        have HX3 : Aside0 (Blk w2 wr.heap.size 24 #[.int .i64 F, .int .i64 M]) := ⟨(Blk.new wr _ _).keep hB⟩
        have c1 := HX3.out.cell (i := 0) rfl
        have c2 := HX3.out.cell (i := 1) rfl
        clear hB x0 x1
        go_wp2_with fail
        all_goals
          refine (span_End.calls F M (F + M) _ He.out).mono ?_
          rintro e w3 ⟨rfl, hB⟩
          have HB4 : Aside0 (Below w.heap.size w w3) := ⟨below_step HB3.out hB⟩
          have HZ4 := Aside0.mk (HZ3.out.keep hB)
          have d1 := HZ4.out.cell (i := 0) rfl
          have d2 := HZ4.out.cell (i := 1) rfl
          have f1 := HZ4.out.frozen 0
          have f2 := HZ4.out.frozen 1
          clear hB c1 c2
          go_wp2_with fail
          refine bodyPost_ret (results_ct rfl _ _ w.heap.size 24 _ (0, 0) _ rfl ((HZ4.out.set_ 0 _).set_ 1 _).hd Try.underlying24 rfl (by kernel_rfl)) rfl ⟨?_, below_set (below_set HB4.out (Nat.le_refl _)) (Nat.le_refl _)⟩
          rw [hat.out]
          first
            | (rw [show max F k = k by omega]; rfl)
            | (rw [show max F k = F by omega]; rfl)
      · replace hnx := Aside0.mk (hnx.out hk)
        go_wp2_with fail
        refine (span_End.calls F M (F + M) _ He.out).mono ?_
        rintro e w2 ⟨rfl, hB⟩
        have HB3 : Aside0 (Below w1.heap.size w1 w2) := ⟨below_step (below_alloc HB.out _) hB⟩
        clear hB x0 x1
        go_wp2_with fail
        go_roundg kk
        case measure => omega
        case rel => exact ⟨i + 1, by omega, by go_num, hnx, HB3⟩
    · have hlt' : ¬ (i : Int) < (l.length : Int) := by omega
      have hn := Aside0.mk (nextV_none l k (fun j h => HJ.out j h (by omega)))
      have d1 := HZ2.out.cell (i := 0) rfl
      have d2 := HZ2.out.cell (i := 1) rfl
      have f1 := HZ2.out.frozen 0
      have f2 := HZ2.out.frozen 1
      go_wp2_with fail
      refine bodyPost_ret (results_ct rfl _ _ w.heap.size 24 _ (0, 0) _ rfl ((HZ2.out.set_ 0 _).set_ 1 _).hd Try.underlying24 rfl (by kernel_rfl)) rfl ⟨?_, below_set (below_set HB2.out (Nat.le_refl _)) (Nat.le_refl _)⟩
      rw [hn.out]; rfl
theorem runs_next (base g : Nat) (l : List S24) (k : Int) (hk0 : -9223372036854775808 ≤ k) (hk1 : k ≤ 9223372036854775807) (w : World) (hT : Tidy 0 l) (h : RunsAt w base g l) :
    Calls Try.prog 32 #[ptrR g, .int .i64 k] w fun e w' => e = .returned (.tuple #[.agg #[.int .i64 (nextV l k).1, .int .i64 (nextV l k).2.1], .bool (nextV l k).2.2]) ∧ Below w.heap.size w w' :=
  runs_next_of _ l k hk0 hk1 w hT (fun W hB => runs_all base g l (by have := hT.length (by decide); omega) W (h.keep hB))
theorem runs_next_nil (k : Int) (hk0 : -9223372036854775808 ≤ k) (hk1 : k ≤ 9223372036854775807) (w : World) :
    Calls Try.prog 32 #[.pointer none, .int .i64 k] w fun e w' => e = .returned (.tuple #[.agg #[.int .i64 0, .int .i64 0], .bool false]) ∧ Below w.heap.size w w' :=
  runs_next_of _ [] k hk0 hk1 w trivial (fun W hB => runs_all_nil W)
end Go.Proofs.Ytjbimnicnehnaaa.Hand
