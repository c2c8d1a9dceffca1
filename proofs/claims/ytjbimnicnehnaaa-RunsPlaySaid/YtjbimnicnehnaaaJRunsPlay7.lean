/- Parts of the proof for RunsPlay: RunsB, RunsD, Kept, RunsH, Alg, Alg2. -/
import Derived.Lib.SliceRun
import Derived.Test.YtjbimnicnehnaaaJRunsPlay6
import Derived.Test.YtjbimnicnehnaaaJRunsPlay2
import Derived.Test.YtjbimnicnehnaaaJRunsPlay3
import Derived.Test.YtjbimnicnehnaaaJRunsPlay5
import Derived.Test.YtjbimnicnehnaaaJRunsPlay4
section
namespace Go.Proofs.Ytjbimnicnehnaaa.Hand
open Go.RowKit Go.Proofs.YtjbimnicnehnaaaW.PrintWords Go.Proofs.YtjbimnicnehnaaaW.PrintLast Go.Proofs.YtjbimnicnehnaaaW.PrintMore Go.Proofs.Ytjbimnicnehnaaa.A
set_option linter.unusedVariables false
set_option linter.unusedSimpArgs false
attribute [local go_sem] max2_int min2_int max_two min_two max_three min_three max_four min_four
theorem clone_nil (w : World) :
    Calls Try.prog 76 #[.slice none 0 0] w fun e w' => ∃ v, e = .returned v ∧ ORow w' w.heap.size v [] ∧ Below w.heap.size w w' := by
  have q0 := fun W => Lib.run_eql_slice_nil (P := Try.prog) W 31 24 none 0 0 0 0 Try.underlying31
  go_enter Try.func76, Try.ntmps76
  go_wp2_with fail
  go_ret
  exact ⟨_, rfl, ORow.nil _ _, Below.refl _ _⟩
set_option maxRecDepth 100000 in
theorem clone_some (a : Addr) (c : Nat) (l : List S24) (hn : l.length ≤ 1000000) (w : World) (hC : Kd.C k24 w (some a) l.length l) :
    Calls Try.prog 76 #[.slice (some a) l.length c] w fun e w' => ∃ v, e = .returned v ∧ ORow w' w.heap.size v l ∧ Below w.heap.size w w' := by
  have q0 := fun W => Lib.run_eql_slice_nil (P := Try.prog) W 31 24 (some a) l.length c 0 0 Try.underlying31
  have HC := Aside0.mk hC
  have Hn := Aside0.mk hn
  clear hC hn
  go_enter Try.func76, Try.ntmps76
  go_wp2_with ((with_reducible refine gate_builtin (b := .append) (xs := #[.tmp 5, .tmp 6]) rfl ?_); at_builtin; refine Kd.R_append_rows k24 (Rr := k24.K (w.alloc (.cells #[] 24))) (w0 := w) w.heap.size rfl (.tmp 5) (.tmp 6) 31 24 (.agg #[(.int .i64 0), (.int .i64 0)]) 16 rfl Try.underlying31 info24' rfl (by decide) (by decide) (.slice (some ⟨w.heap.size, 0, none⟩) 0 0) [] l (some a) l.length c (fun _ => True) (fun _ => False) rfl rfl ?aO ?aR ?aK (fun _ h => h.elim) (fun _ _ => trivial) ?aB ?aS ?aL ?_; (case aO => exact ⟨fun _ _ => trivial, [], World.ownsRow_lit w #[] 0 (Nat.le_refl _) (by decide) rfl, Reps.none _ _⟩); (case aR => exact Kd.C_below HC.out (below_alloc (Below.refl _ _) _)); (case aK => (intro x cs hk; rw [k24_open hk]; exact k24_mkM _ _ _ _)); (case aB => exact below_alloc (Below.refl _ _) _); (case aS => simp); (case aL => (have := Hn.out; simp only [List.length_nil]; omega)); intro v1 w1 ho hb hg hat; have HO := Aside0.mk (ORow.of_R ho); have HB := Aside0.mk hb; clear ho hb hg hat)
  obtain ⟨A1, c1, hv, _⟩ := HO.out.reads
  subst hv
  go_ret
  exact ⟨_, rfl, HO.out, HB.out⟩
set_option maxRecDepth 100000 in
theorem runs_all (base g : Nat) (l : List S24) (hn : l.length ≤ 1000000) (w : World) (h : RunsAt w base g l) :
    Calls Try.prog 38 #[ptrR g] w fun e w' => ∃ v, e = .returned v ∧ ORow w' w.heap.size v l ∧ Below w.heap.size w w' := by
  obtain ⟨v0, hb, ho⟩ := h
  have hcl : ∀ v0, ORow w base v0 l → Calls Try.prog 76 #[v0] w fun e w' => ∃ v, e = .returned v ∧ ORow w' w.heap.size v l ∧ Below w.heap.size w w' := by
    intro v0 ho
    obtain ⟨A, c, rfl, hlc, hC, _⟩ := ho.reads
    cases A with
    | none =>
      rcases ho.2 with ⟨he, h0⟩ | ⟨g', cap, cur, he, _⟩
      · obtain rfl : l = [] := List.eq_nil_of_length_eq_zero h0
        rw [he]; exact clone_nil w
      · cases he
    | some a => exact clone_some a c l hn w hC
  have Hcl := Aside0.mk (hcl v0 ho)
  obtain ⟨A, c, rfl, hlc, hC, _⟩ := ho.reads
  have c0 := hb.cell (i := 0) rfl
  clear hb ho hcl hC hlc
  go_enter Try.func38, Try.ntmps38
  go_wp2_with fail
  refine Hcl.out.mono ?_
  rintro e w1 ⟨v, rfl, ho, hB⟩
  have HO := Aside0.mk ho
  have HB := Aside0.mk hB
  clear ho hB
  obtain ⟨A1, c1, hv, _⟩ := HO.out.reads
  subst hv
  go_wp2_with fail
  go_ret
  exact ⟨_, rfl, HO.out, HB.out⟩
theorem runs_all_nil (w : World) :
    Calls Try.prog 38 #[.pointer none] w fun e w' => ∃ v, e = .returned v ∧ ORow w' w.heap.size v [] ∧ Below w.heap.size w w' := by
  go_enter Try.func38, Try.ntmps38
  go_wp2_with fail
  go_ret
  exact ⟨_, rfl, ORow.nil _ _, Below.refl _ _⟩
theorem sumN_step (l : List S24) (i : Nat) (h : i < l.length) : sumN (l.take (i + 1)) = sumN (l.take i) + l[i].f1 := by
  rw [List.take_succ_eq_append_getElem h, sumN_append, sumN_cons]; simp [sumN]
set_option maxRecDepth 100000 in
theorem runs_count_of (P0 : Value) (l : List S24) (w : World) (hT : Tidy 0 l) (ha : Calls Try.prog 38 #[P0] w fun e w' => ∃ v, e = .returned v ∧ ORow w' w.heap.size v l ∧ Below w.heap.size w w') :
    Calls Try.prog 33 #[P0] w fun e w' => e = .returned (.int .i64 (sumN l)) ∧ Below w.heap.size w w' := by
  have hlen := hT.length (by decide)
  have HT := Aside0.mk hT
  have Hc := Aside0.mk ha
  clear ha hT
  go_enter Try.func33, Try.ntmps33
  go_wp2_with fail
  refine Hc.out.mono ?_
  rintro e w1 ⟨v, rfl, ho, hB⟩
  obtain ⟨A, c, rfl, hlc, hC, _⟩ := ho.reads
  have HB1 := Aside0.mk hB
  have HC := Aside0.mk hC
  clear ho hC hB Hc hlc
  go_wp2_with fail
  go_loopg [3, 9] l.length (fun kq u v wq => ∃ i : Nat, i + kq = l.length ∧ v = .int .i64 (i : Int) ∧ u = .int .i64 (sumN (l.take i)) ∧ Aside0 (Below w1.heap.size w1 wq))
  case atStart => exact ⟨0, by omega, rfl, rfl, ⟨Below.refl _ _⟩⟩
  case round =>
    obtain ⟨i, hi, rfl, rfl, HB⟩ := hrel
    by_cases hlt : i < l.length
    · obtain ⟨ad, e1, x0, x1⟩ := at_T24 (Kd.C_below HC.out HB.out) (i : Int) (by omega) (by omega)
      subst e1
      rw [Int.toNat_natCast, rd_get l i hlt] at x0 x1
      have hlt' : (i : Int) < (l.length : Int) := by omega
      have hs := (HT.out.take i).sum (by decide)
      obtain ⟨hs0, hs1⟩ := hs
      have hw := HT.out.whole (Int.le_refl _) _ (List.getElem_mem hlt)
      obtain ⟨hw0, hw1, hw2⟩ := hw
      have hs2 := Aside0.mk (sumN_step l i hlt)
      generalize sumN (l.take i) = z at *
      generalize l[i] = X at *
      obtain ⟨F, M⟩ := X
      simp only at x0 x1 hw0 hw1 hw2 hs2
      obtain ⟨kk, rfl⟩ : ∃ z, gk = z + 1 := ⟨gk - 1, by omega⟩
      go_wp2_with fail
      go_roundg kk
      case measure => omega
      case rel => exact ⟨i + 1, by omega, by go_num, by rw [hs2.out], ⟨below_alloc HB.out _⟩⟩
    · have hlt' : ¬ (i : Int) < (l.length : Int) := by omega
      obtain rfl : i = l.length := by omega
      rw [List.take_length]
      go_wp2_with fail
      go_ret
      exact ⟨rfl, below_step HB1.out HB.out⟩
theorem runs_count (base g : Nat) (l : List S24) (w : World) (hT : Tidy 0 l) (h : RunsAt w base g l) :
    Calls Try.prog 33 #[ptrR g] w fun e w' => e = .returned (.int .i64 (sumN l)) ∧ Below w.heap.size w w' :=
  runs_count_of _ l w hT (runs_all base g l (by have := hT.length (by decide); omega) w h)
theorem runs_count_nil (w : World) : Calls Try.prog 33 #[.pointer none] w fun e w' => e = .returned (.int .i64 0) ∧ Below w.heap.size w w' :=
  runs_count_of _ [] w trivial (runs_all_nil w)
theorem eq_l0 (l l' : List S24) (hl : l.length = l'.length) (hm : l.length < 1000000) : ∀ (k i : Nat), l.length < i + k → i ≤ l.length → api_Span_74.l0 k l l' (l.length : Int) (i : Int) = some (decide (l.drop i = l'.drop i))
  | 0, i, h, hi => by omega
  | k + 1, i, h, hi => by
    unfold api_Span_74.l0
    by_cases hlt : i < l.length
    · rw [if_pos (by omega), if_pos (by omega), if_pos (by omega), if_pos (by omega), rd_get l i hlt, rd_get l' i (by omega)]
      have d1 := List.drop_eq_getElem_cons hlt
      have d2 := List.drop_eq_getElem_cons (show i < l'.length by omega)
      have ih := eq_l0 l l' hl hm k (i + 1) (by omega) (by omega)
      have e : wrap64 ((i : Int) + 1) = ((i + 1 : Nat) : Int) := by rw [w_id (by omega) (by omega)]; omega
      rw [e, ih]
      by_cases hx : l[i] = l'[i]
      · rw [hx, if_neg (by simp)]
        congr 1
        rw [decide_eq_decide, d1, d2, List.cons.injEq]
        exact ⟨fun h => ⟨hx, h⟩, fun h => h.2⟩
      · rw [if_pos (by
          have : ¬ (l[i].f0 = l'[i].f0 ∧ l[i].f1 = l'[i].f1) := fun h => hx (by cases hq : l[i]; cases hr : l'[i]; simp_all)
          simp only [Bool.or_eq_true, Bool.not_eq_true', beq_eq_false_iff_ne, ne_eq]
          by_cases h0 : l[i].f0 = l'[i].f0
          · exact .inr (fun h1 => this ⟨h0, h1⟩)
          · exact .inl h0)]
        congr 1
        exact (decide_eq_false (fun h => by rw [d1, d2, List.cons.injEq] at h; exact hx h.1)).symm
    · rw [if_neg (by omega), List.drop_eq_nil_of_le (show l.length ≤ i by omega), List.drop_eq_nil_of_le (show l'.length ≤ i by omega)]; rfl
theorem eq_f (l l' : List S24) (hm : l.length < 1000000) : api_Span_74.f (l.length + 1) l l' = some (decide (l = l')) := by
  unfold api_Span_74.f
  by_cases h : l.length = l'.length
  · rw [if_pos (by omega)]
    have := eq_l0 l l' h hm (l.length + 1) 0 (by omega) (by omega)
    simpa using this
  · rw [if_neg (by omega)]
    have : l ≠ l' := fun e => h (by rw [e])
    simp [this]
theorem drawn_below {w w1 : World} (h : Drawn0 w w1) : Below w.heap.size w w1 := by
  obtain ⟨n, rfl⟩ := h.out
  exact pw_below_drewN (Below.refl _ _) n
set_option maxRecDepth 100000 in
theorem runs_same (base g base' g' : Nat) (l l' : List S24) (w : World) (hT : Tidy 0 l) (hT' : Tidy 0 l') (h : RunsAt w base g l) (h' : RunsAt w base' g' l') :
    Calls Try.prog 34 #[ptrR g, ptrR g'] w fun e w' => e = .returned (.bool (decide (l = l'))) ∧ Below w.heap.size w w' := by
  have hlen := hT.length (by decide)
  have hlen' := hT'.length (by decide)
  have H := Aside0.mk h
  have H' := Aside0.mk h'
  have Hq := Aside0.mk (eq_f l l' (by omega))
  generalize decide (l = l') = b at *
  clear h h' hT hT'
  go_enter Try.func34, Try.ntmps34
  go_wp2_with fail
  refine (runs_all base g l (by omega) w H.out).mono ?_
  rintro e w1 ⟨v, rfl, ho, hB⟩
  obtain ⟨A, c, rfl, hlc, hC, _⟩ := ho.reads
  have HB1 := Aside0.mk hB
  have HC := Aside0.mk hC
  have Hlc := Aside0.mk hlc
  clear ho hC hB hlc
  go_wp2_with fail
  refine (runs_all base' g' l' (by omega) w1 (H'.out.keep HB1.out)).mono ?_
  rintro e w2 ⟨v, rfl, ho, hB⟩
  obtain ⟨A', c', rfl, hlc, hC, _⟩ := ho.reads
  have HB2 : Aside0 (Below w.heap.size w w2) := ⟨below_step HB1.out hB⟩
  have HC1 := Aside0.mk (Kd.C_below HC.out hB)
  have HC2 := Aside0.mk hC
  have Hlc2 := Aside0.mk hlc
  clear ho hC hB hlc
  go_wp2_with fail
  refine (api_Span_74.calls (l.length + 1) A c l A' c' l' _ _ HC1.out Hlc.out HC2.out Hlc2.out Hq.out).mono ?_
  rintro e w3 ⟨rfl, hd⟩
  have HB3 : Aside0 (Below w.heap.size w w3) := ⟨below_step HB2.out (drawn_below hd)⟩
  clear hd
  go_wp2_with fail
  go_ret
  exact ⟨rfl, HB3.out⟩
instance (x : S24) (k : Int) : Decidable (inSp x k) := by unfold inSp; infer_instance
/-- Whether a block is in one of them. -/
def memB (l : List S24) (k : Int) : Bool := l.any fun x => decide (inSp x k)
theorem memB_iff (l : List S24) (k : Int) : memB l k = true ↔ mem l k := by
  unfold memB mem
  rw [List.any_eq_true]
  constructor
  · rintro ⟨x, h, hk⟩
    exact ⟨x, h, of_decide_eq_true hk⟩
  · rintro ⟨x, h, hk⟩
    exact ⟨x, h, decide_eq_true hk⟩
theorem memB_of (l : List S24) (i : Nat) (k : Int) (h : i < l.length) (hk : inSp l[i] k) : memB l k = true := (memB_iff l k).2 ⟨_, List.getElem_mem h, hk⟩
set_option maxRecDepth 100000 in
theorem runs_has_of (P0 : Value) (l : List S24) (k : Int) (w : World) (hT : Tidy 0 l) (ha : Calls Try.prog 38 #[P0] w fun e w' => ∃ v, e = .returned v ∧ ORow w' w.heap.size v l ∧ Below w.heap.size w w') :
    Calls Try.prog 42 #[P0, .int .i64 k] w fun e w' => e = .returned (.bool (memB l k)) ∧ Below w.heap.size w w' := by
  have hlen := hT.length (by decide)
  have HT := Aside0.mk hT
  have Hc := Aside0.mk ha
  have Hm : Aside0 (∀ i, (h : i < l.length) → inSp l[i] k → memB l k = true) := ⟨fun i h => memB_of l i k h⟩
  have Hn : Aside0 ((∀ i, (h : i < l.length) → ¬ inSp l[i] k) → memB l k = false) := ⟨fun h => by
    cases hb : memB l k
    · rfl
    · obtain ⟨x, hx, hk⟩ := (memB_iff l k).1 hb
      obtain ⟨i, hi, rfl⟩ := List.getElem_of_mem hx
      exact absurd hk (h i hi)⟩
  generalize memB l k = b at *
  clear ha hT
  go_enter Try.func42, Try.ntmps42
  go_wp2_with fail
  refine Hc.out.mono ?_
  rintro e w1 ⟨v, rfl, ho, hB⟩
  obtain ⟨A, c, rfl, hlc, hC, _⟩ := ho.reads
  have HB1 := Aside0.mk hB
  have HC := Aside0.mk hC
  clear ho hC hB Hc hlc
  go_wp2_with fail
  go_loopg [10] l.length (fun kq v wq => ∃ i : Nat, i + kq = l.length ∧ v = .int .i64 (i : Int) ∧ Aside0 (∀ j, (h : j < l.length) → j < i → ¬ inSp l[j] k) ∧ Aside0 (Below w1.heap.size w1 wq))
  case atStart => exact ⟨0, by omega, rfl, ⟨fun j _ h => by omega⟩, ⟨Below.refl _ _⟩⟩
  case round =>
    obtain ⟨i, hi, rfl, HJ, HB⟩ := hrel
    by_cases hlt : i < l.length
    · obtain ⟨ad, e1, x0, x1⟩ := at_T24 (Kd.C_below HC.out HB.out) (i : Int) (by omega) (by omega)
      subst e1
      rw [Int.toNat_natCast, rd_get l i hlt] at x0 x1
      have hlt' : (i : Int) < (l.length : Int) := by omega
      have hw := Aside0.mk (HT.out.whole (Int.le_refl _) _ (List.getElem_mem hlt))
      have hmi := Aside0.mk (Hm.out i hlt)
      have hnx : Aside0 (¬ inSp l[i] k → ∀ j, (h : j < l.length) → j < i + 1 → ¬ inSp l[j] k) := ⟨fun hx j h hj => by
        by_cases e : j = i
        · subst e; exact hx
        · exact HJ.out j h (by omega)⟩
      have Hh := Aside0.mk (has_eq l[i].f0 l[i].f1 k)
      obtain ⟨kk, rfl⟩ : ∃ z, gk = z + 1 := ⟨gk - 1, by omega⟩
      by_cases hk : inSp l[i] k
      · have Hh2 : Aside0 (span_Has.f l[i].f0 l[i].f1 k = some true) := ⟨by rw [Hh.out, decide_eq_true ⟨hw.out, hk⟩]⟩
        have hb : b = true := hmi.out hk
        subst hb
        clear hk hnx
        generalize l[i] = X at *
        obtain ⟨F, M⟩ := X
        simp only at x0 x1 Hh2
        go_wp2_with fail
        refine (span_Has.calls F M k true _ Hh2.out).mono ?_
        rintro e w2 ⟨rfl, hB⟩
        have HB2 : Aside0 (Below w.heap.size w w2) := ⟨below_step (below_step HB1.out (below_alloc HB.out _)) hB⟩
        clear hB x0 x1
        go_wp2_with fail
        go_ret
        exact ⟨rfl, HB2.out⟩
      · have Hh2 : Aside0 (span_Has.f l[i].f0 l[i].f1 k = some false) := ⟨by rw [Hh.out, decide_eq_false (fun h => hk h.2)]⟩
        replace hnx := Aside0.mk (hnx.out hk)
        clear hk hmi
        generalize l[i] = X at *
        obtain ⟨F, M⟩ := X
        simp only at x0 x1 Hh2
        go_wp2_with fail
        refine (span_Has.calls F M k false _ Hh2.out).mono ?_
        rintro e w2 ⟨rfl, hB⟩
        have HB2 : Aside0 (Below w1.heap.size w1 w2) := ⟨below_step (below_alloc HB.out _) hB⟩
        clear hB x0 x1
        go_wp2_with fail
        go_roundg kk
        case measure => omega
        case rel => exact ⟨i + 1, by omega, by go_num, hnx, HB2⟩
    · have hlt' : ¬ (i : Int) < (l.length : Int) := by omega
      have hb : b = false := Hn.out (fun j h => HJ.out j h (by omega))
      subst hb
      go_wp2_with fail
      go_ret
      exact ⟨rfl, below_step HB1.out HB.out⟩
theorem runs_has (base g : Nat) (l : List S24) (k : Int) (w : World) (hT : Tidy 0 l) (h : RunsAt w base g l) :
    Calls Try.prog 42 #[ptrR g, .int .i64 k] w fun e w' => e = .returned (.bool (memB l k)) ∧ Below w.heap.size w w' :=
  runs_has_of _ l k w hT (runs_all base g l (by have := hT.length (by decide); omega) w h)
theorem runs_has_nil (k : Int) (w : World) : Calls Try.prog 42 #[.pointer none, .int .i64 k] w fun e w' => e = .returned (.bool false) ∧ Below w.heap.size w w' :=
  runs_has_of _ [] k w trivial (runs_all_nil w)
set_option maxRecDepth 100000 in
theorem runs_copy_of (P0 : Value) (l : List S24) (w : World) (ha : Calls Try.prog 38 #[P0] w fun e w' => ∃ v, e = .returned v ∧ ORow w' w.heap.size v l ∧ Below w.heap.size w w') :
    Calls Try.prog 41 #[P0] w fun e w' => ∃ g, e = .returned (ptrR g) ∧ w.heap.size ≤ g ∧ RunsAt w' w.heap.size g l ∧ Below w.heap.size w w' := by
  have Hc := Aside0.mk ha
  clear ha
  go_enter Try.func41, Try.ntmps41
  go_wp2_with fail
  refine Hc.out.mono ?_
  rintro e w1 ⟨v, rfl, ho, hB⟩
  have HO := Aside0.mk ho
  obtain ⟨A, c, rfl, hlc, hC, _⟩ := ho.reads
  have HB1 := Aside0.mk hB
  clear ho hC hB Hc hlc
  go_wp2_with fail
  go_ret
  exact ⟨_, rfl, below_size HB1.out, ⟨_, Blk.new _ _ _, own_alloc HO.out _⟩, below_alloc HB1.out _⟩
/-- The first blocks from one on. -/
def nextV : List S24 → Int → Int × Int × Bool
  | [], _ => (0, 0, false)
  | x :: l, from_ => if from_ < x.f0 + x.f1 then (max x.f0 from_, x.f0 + x.f1 - max x.f0 from_, true) else nextV l from_
theorem nextV_skip : ∀ (l : List S24) (k : Int) (i : Nat), (∀ j, (h : j < l.length) → j < i → ¬ k < l[j].f0 + l[j].f1) → nextV l k = nextV (l.drop i) k
  | l, k, 0, _ => by rw [List.drop_zero]
  | [], k, i + 1, _ => by simp
  | x :: l, k, i + 1, h => by
    have h0 := h 0 (by simp) (by omega)
    simp only [List.getElem_cons_zero] at h0
    show (if k < x.f0 + x.f1 then _ else nextV l k) = _
    rw [if_neg h0]
    exact nextV_skip l k i (fun j hj hji => by have := h (j + 1) (by simp; omega) (by omega); simpa using this)
theorem nextV_at (l : List S24) (k : Int) (i : Nat) (hl : i < l.length) (h : ∀ j, (h : j < l.length) → j < i → ¬ k < l[j].f0 + l[j].f1) (hk : k < l[i].f0 + l[i].f1) : nextV l k = (max l[i].f0 k, l[i].f0 + l[i].f1 - max l[i].f0 k, true) := by
  rw [nextV_skip l k i h, List.drop_eq_getElem_cons hl]
  show (if _ then _ else _) = _
  rw [if_pos hk]
theorem nextV_none (l : List S24) (k : Int) (h : ∀ j, (h : j < l.length) → ¬ k < l[j].f0 + l[j].f1) : nextV l k = (0, 0, false) := by
  rw [nextV_skip l k l.length (fun j hj _ => h j hj), List.drop_length]; rfl
set_option maxRecDepth 100000 in
theorem runs_next_of (P0 : Value) (l : List S24) (k : Int) (hk0 : -9223372036854775808 ≤ k) (hk1 : k ≤ 9223372036854775807) (w : World) (hT : Tidy 0 l) (ha : ∀ W, Below w.heap.size w W → Calls Try.prog 38 #[P0] W fun e w' => ∃ v, e = .returned v ∧ ORow w' W.heap.size v l ∧ Below W.heap.size W w') :
    Calls Try.prog 32 #[P0, .int .i64 k] w fun e w' => e = .returned (.tuple #[.agg #[.int .i64 (nextV l k).1, .int .i64 (nextV l k).2.1], .bool (nextV l k).2.2]) ∧ Below w.heap.size w w' := by
  have hlen := hT.length (by decide)
  have HT := Aside0.mk hT
  have Hc := Aside0.mk ha
  clear ha hT
  go_enter Try.func32, Try.ntmps32
  go_wp2_with fail
  refine (Hc.out _ (below_alloc (Below.refl _ _) _)).mono ?_
  rintro e w1 ⟨v, rfl, ho, hB⟩
  obtain ⟨A, c, rfl, hlc, hC, _⟩ := ho.reads
  have HB1 : Aside0 (Below w.heap.size w w1) := ⟨below_step (below_alloc (Below.refl _ _) _) hB⟩
  have HZ1 : Aside0 (Blk w1 w.heap.size 24 #[.int .i64 0, .int .i64 0]) := ⟨(Blk.new w _ _).keep hB⟩
  have HC := Aside0.mk hC
  clear ho hC hB Hc hlc
  go_wp2_with fail
  go_loopg [12] l.length (fun kq v wq => ∃ i : Nat, i + kq = l.length ∧ v = .int .i64 (i : Int) ∧ Aside0 (∀ j, (h : j < l.length) → j < i → ¬ k < l[j].f0 + l[j].f1) ∧ Aside0 (Below w1.heap.size w1 wq))
  case atStart => exact ⟨0, by omega, rfl, ⟨fun j _ h => by omega⟩, ⟨Below.refl _ _⟩⟩
  case round =>
    obtain ⟨i, hi, rfl, HJ, HB⟩ := hrel
    have HZ2 := Aside0.mk (HZ1.out.keep HB.out)
    have HB2 : Aside0 (Below w.heap.size w wr) := ⟨below_step HB1.out HB.out⟩
    by_cases hlt : i < l.length
    · obtain ⟨ad, e1, x0, x1⟩ := at_T24 (Kd.C_below HC.out HB.out) (i : Int) (by omega) (by omega)
      subst e1
      rw [Int.toNat_natCast, rd_get l i hlt] at x0 x1
      have hlt' : (i : Int) < (l.length : Int) := by omega
      have hw := HT.out.whole (Int.le_refl _) _ (List.getElem_mem hlt)
      have hat := Aside0.mk (nextV_at l k i hlt HJ.out)
      have hnx : Aside0 (¬ k < l[i].f0 + l[i].f1 → ∀ j, (h : j < l.length) → j < i + 1 → ¬ k < l[j].f0 + l[j].f1) := ⟨fun hx j h hj => by
        by_cases e : j = i
        · subst e; exact hx
        · exact HJ.out j h (by omega)⟩
      have He : Aside0 (span_End.f l[i].f0 l[i].f1 = some (l[i].f0 + l[i].f1)) := ⟨by rw [end_eq]; unfold endV; rw [if_pos hw]⟩
      generalize l[i] = X at *
      obtain ⟨F, M⟩ := X
      simp only at x0 x1 hw hat hnx He
      obtain ⟨hw0, hw1, hw2⟩ := hw
      obtain ⟨kk, rfl⟩ : ∃ z, gk = z + 1 := ⟨gk - 1, by omega⟩
      by_cases hk : k < F + M
      · replace hat := Aside0.mk (hat.out hk)
        go_wp2_with fail
        refine (span_End.calls F M (F + M) _ He.out).mono ?_
        rintro e w2 ⟨rfl, hB⟩
        have HB3 : Aside0 (Below w.heap.size w w2) := ⟨below_step (below_alloc HB2.out _) hB⟩
        have HZ3 : Aside0 (Blk w2 w.heap.size 24 #[.int .i64 0, .int .i64 0]) := ⟨(HZ2.out.alloc _).keep hB⟩
        have HX3 : Aside0 (Blk w2 wr.heap.size 24 #[.int .i64 F, .int .i64 M]) := ⟨(Blk.new wr _ _).keep hB⟩
        have c1 := HX3.out.cell (i := 0) rfl
        have c2 := HX3.out.cell (i := 1) rfl
        clear hB x0 x1
        go_wp2_with fail
        all_goals
          refine (span_End.calls F M (F + M) _ He.out).mono ?_
          rintro e w3 ⟨rfl, hB⟩
          have HB4 : Aside0 (Below w.heap.size w w3) := ⟨below_step HB3.out hB⟩
          have HZ4 := Aside0.mk (HZ3.out.keep hB)
          have d1 := HZ4.out.cell (i := 0) rfl
          have d2 := HZ4.out.cell (i := 1) rfl
          have f1 := HZ4.out.frozen 0
          have f2 := HZ4.out.frozen 1
          clear hB c1 c2
          go_wp2_with fail
          refine bodyPost_ret (results_ct rfl _ _ w.heap.size 24 _ (0, 0) _ rfl ((HZ4.out.set_ 0 _).set_ 1 _).hd Try.underlying24 rfl (by kernel_rfl)) rfl ⟨?_, below_set (below_set HB4.out (Nat.le_refl _)) (Nat.le_refl _)⟩
          rw [hat.out]
          first
            | (rw [show max F k = k by omega]; rfl)
            | (rw [show max F k = F by omega]; rfl)
      · replace hnx := Aside0.mk (hnx.out hk)
        go_wp2_with fail
        refine (span_End.calls F M (F + M) _ He.out).mono ?_
        rintro e w2 ⟨rfl, hB⟩
        have HB3 : Aside0 (Below w1.heap.size w1 w2) := ⟨below_step (below_alloc HB.out _) hB⟩
        clear hB x0 x1
        go_wp2_with fail
        go_roundg kk
        case measure => omega
        case rel => exact ⟨i + 1, by omega, by go_num, hnx, HB3⟩
    · have hlt' : ¬ (i : Int) < (l.length : Int) := by omega
      have hn := Aside0.mk (nextV_none l k (fun j h => HJ.out j h (by omega)))
      have d1 := HZ2.out.cell (i := 0) rfl
      have d2 := HZ2.out.cell (i := 1) rfl
      have f1 := HZ2.out.frozen 0
      have f2 := HZ2.out.frozen 1
      go_wp2_with fail
      refine bodyPost_ret (results_ct rfl _ _ w.heap.size 24 _ (0, 0) _ rfl ((HZ2.out.set_ 0 _).set_ 1 _).hd Try.underlying24 rfl (by kernel_rfl)) rfl ⟨?_, below_set (below_set HB2.out (Nat.le_refl _)) (Nat.le_refl _)⟩
      rw [hn.out]; rfl
theorem runs_next (base g : Nat) (l : List S24) (k : Int) (hk0 : -9223372036854775808 ≤ k) (hk1 : k ≤ 9223372036854775807) (w : World) (hT : Tidy 0 l) (h : RunsAt w base g l) :
    Calls Try.prog 32 #[ptrR g, .int .i64 k] w fun e w' => e = .returned (.tuple #[.agg #[.int .i64 (nextV l k).1, .int .i64 (nextV l k).2.1], .bool (nextV l k).2.2]) ∧ Below w.heap.size w w' :=
  runs_next_of _ l k hk0 hk1 w hT (fun W hB => runs_all base g l (by have := hT.length (by decide); omega) W (h.keep hB))
theorem runs_next_nil (k : Int) (hk0 : -9223372036854775808 ≤ k) (hk1 : k ≤ 9223372036854775807) (w : World) :
    Calls Try.prog 32 #[.pointer none, .int .i64 k] w fun e w' => e = .returned (.tuple #[.agg #[.int .i64 0, .int .i64 0], .bool false]) ∧ Below w.heap.size w w' :=
  runs_next_of _ [] k hk0 hk1 w trivial (fun W hB => runs_all_nil W)
end Go.Proofs.Ytjbimnicnehnaaa.Hand
end
section
namespace Go.Proofs.Ytjbimnicnehnaaa.Hand
open Go.RowKit Go.Proofs.YtjbimnicnehnaaaW.PrintWords Go.Proofs.YtjbimnicnehnaaaW.PrintLast Go.Proofs.YtjbimnicnehnaaaW.PrintMore Go.Proofs.Ytjbimnicnehnaaa.A
set_option linter.unusedVariables false
set_option linter.unusedSimpArgs false
attribute [local go_sem] max2_int min2_int max_two min_two max_three min_three max_four min_four
theorem add_block (a : Addr) (j : Nat) : (a.add j).block = a.block := by unfold Addr.add; split <;> rfl
/-- A row (if there is one) is not in a block. -/
def Off (A : Option Addr) (n g : Nat) : Prop := 0 < n → ∀ a, A = some a → a.block ≠ g
theorem off_lt {w : World} {n g : Nat} {A : Option Addr} {l : List S24} (h : Kd.C k24 w A n l) (hg : w.heap.size ≤ g) : Off A n g := by
  intro hn a ha e
  obtain ⟨ad, he, x0, _⟩ := at_T24 h 0 (Int.le_refl _) (by omega)
  rw [ha] at he
  injection he with he
  subst he
  have := World.block_lt_of_cell? _ _ x0
  simp only [add_block] at this
  omega
theorem C_only {w w1 : World} {g n : Nat} {A : Option Addr} {l : List S24} (h : Kd.C k24 w A n l) (ho : Only w w1 g) (hne : Off A n g) : Kd.C k24 w1 A n l := by
  refine ⟨h.1, h.2.1, fun hn => ?_⟩
  obtain ⟨ad, e, hc⟩ := h.2.2 hn
  refine ⟨ad, e, fun j p hj => ?_⟩
  obtain ⟨c, h1, h2, h3⟩ := hc j p hj
  refine ⟨c, h1, ?_, fun i u hu => keepO ho (h3 i u hu) (by rw [add_block]; exact hne hn ad e)⟩
  rw [k24_open h2]; exact k24_mk w1 p
def putOneV (l : List S24) (s : S24) : List S24 := if wh s.f0 s.f1 then addV l s else l
def putV (l ls : List S24) : List S24 := ls.foldl putOneV l
def cutOneV (l : List S24) (s : S24) : List S24 := if wh s.f0 s.f1 then cutV l s else l
def cutAllV (l ls : List S24) : List S24 := ls.foldl cutOneV l
/-- Blocks of whole spans. -/
def wmem (ls : List S24) (k : Int) : Prop := ∃ s ∈ ls, wh s.f0 s.f1 ∧ inSp s k
theorem putV_spec : ∀ (ls l : List S24), Tidy 0 l → Tidy 0 (putV l ls) ∧ ∀ k, mem (putV l ls) k ↔ mem l k ∨ wmem ls k
  | [], l, h => ⟨h, fun k => by show mem l k ↔ _; unfold wmem; simp⟩
  | s :: ls, l, h => by
    show Tidy 0 (putV (putOneV l s) ls) ∧ ∀ k, mem (putV (putOneV l s) ls) k ↔ _
    unfold putOneV wmem
    by_cases hs : wh s.f0 s.f1
    · rw [if_pos hs]
      obtain ⟨a1, a2⟩ := addV_spec h hs
      obtain ⟨b1, b2⟩ := putV_spec ls _ a1
      refine ⟨b1, fun k => ?_⟩
      rw [b2 k, a2 k]
      unfold wmem
      constructor
      · rintro ((h | h) | ⟨x, h1, h2⟩)
        · exact .inl h
        · exact .inr ⟨s, List.mem_cons_self, hs, h⟩
        · exact .inr ⟨x, List.mem_cons_of_mem _ h1, h2⟩
      · rintro (h | ⟨x, h1, h2⟩)
        · exact .inl (.inl h)
        · rcases List.mem_cons.1 h1 with rfl | h1
          · exact .inl (.inr h2.2)
          · exact .inr ⟨x, h1, h2⟩
    · rw [if_neg hs]
      obtain ⟨b1, b2⟩ := putV_spec ls _ h
      refine ⟨b1, fun k => ?_⟩
      rw [b2 k]
      unfold wmem
      constructor
      · rintro (h | ⟨x, h1, h2⟩)
        · exact .inl h
        · exact .inr ⟨x, List.mem_cons_of_mem _ h1, h2⟩
      · rintro (h | ⟨x, h1, h2⟩)
        · exact .inl h
        · rcases List.mem_cons.1 h1 with rfl | h1
          · exact absurd h2.1 hs
          · exact .inr ⟨x, h1, h2⟩
theorem cutAllV_spec : ∀ (ls l : List S24), Tidy 0 l → Tidy 0 (cutAllV l ls) ∧ ∀ k, mem (cutAllV l ls) k ↔ mem l k ∧ ¬ wmem ls k
  | [], l, h => ⟨h, fun k => by show mem l k ↔ _; unfold wmem; simp⟩
  | s :: ls, l, h => by
    show Tidy 0 (cutAllV (cutOneV l s) ls) ∧ ∀ k, mem (cutAllV (cutOneV l s) ls) k ↔ _
    unfold cutOneV wmem
    by_cases hs : wh s.f0 s.f1
    · rw [if_pos hs]
      obtain ⟨a1, a2⟩ := cutV_spec hs (Int.le_refl _) h
      obtain ⟨b1, b2⟩ := cutAllV_spec ls _ a1
      refine ⟨b1, fun k => ?_⟩
      rw [b2 k, a2 k]
      unfold wmem
      constructor
      · rintro ⟨⟨h, h'⟩, h2⟩
        refine ⟨h, ?_⟩
        rintro ⟨x, h1, h3⟩
        rcases List.mem_cons.1 h1 with rfl | h1
        · exact h' h3.2
        · exact h2 ⟨x, h1, h3⟩
      · rintro ⟨h, h'⟩
        exact ⟨⟨h, fun hk => h' ⟨s, List.mem_cons_self, hs, hk⟩⟩, fun ⟨x, h1, h2⟩ => h' ⟨x, List.mem_cons_of_mem _ h1, h2⟩⟩
    · rw [if_neg hs]
      obtain ⟨b1, b2⟩ := cutAllV_spec ls _ h
      refine ⟨b1, fun k => ?_⟩
      rw [b2 k]
      unfold wmem
      constructor
      · rintro ⟨h, h2⟩
        refine ⟨h, ?_⟩
        rintro ⟨x, h1, h3⟩
        rcases List.mem_cons.1 h1 with rfl | h1
        · exact hs h3.1
        · exact h2 ⟨x, h1, h3⟩
      · rintro ⟨h, h'⟩
        exact ⟨h, fun ⟨x, h1, h2⟩ => h' ⟨x, List.mem_cons_of_mem _ h1, h2⟩⟩
set_option maxRecDepth 100000 in
set_option maxHeartbeats 1600000 in
theorem runs_put (base g : Nat) (l ls : List S24) (A : Option Addr) (c : Nat) (w : World) (hT : Tidy 0 l) (h : RunsAt w base g l) (hbase : base ≤ w.heap.size) (hC : Kd.C k24 w A ls.length ls) (hne : Off A ls.length g) :
    Calls Try.prog 35 #[ptrR g, .slice A ls.length c] w fun e w' => e = .returned (.int .i64 (sumN (putV l ls) - sumN l)) ∧ RunsAt w' base g (putV l ls) ∧ Only w w' g := by
  have hln : ls.length ≤ 9223372036854775807 := by have := hC.2.1; unfold maxLen at this; omega
  have HT := Aside0.mk hT
  have H := Aside0.mk h
  have HC := Aside0.mk hC
  have Hne := Aside0.mk hne
  have Hbase := Aside0.mk hbase
  obtain ⟨s0, s1⟩ := hT.sum (by decide)
  clear h hT hC hne hbase
  go_enter Try.func35, Try.ntmps35
  go_wp2_with fail
  refine (runs_count base g l _ HT.out H.out).mono ?_
  rintro e w1 ⟨rfl, hB⟩
  have HO1 : Aside0 (Only w w1 g) := ⟨only_below (only_refl _ _) hB⟩
  have HR1 := Aside0.mk (H.out.keep hB)
  clear hB
  generalize hz : sumN l = z at *
  go_wp2_with fail
  go_loopg [14] ls.length (fun kq v wq => ∃ i : Nat, i + kq = ls.length ∧ v = .int .i64 (i : Int) ∧ Aside0 (Only w wq g) ∧ Aside0 (RunsAt wq base g (putV l (ls.take i))))
  case atStart => exact ⟨0, by omega, rfl, HO1, HR1⟩
  case round =>
    clear HO1 HR1
    obtain ⟨i, hi, rfl, HO, HR⟩ := hrel
    have HTi := Aside0.mk (putV_spec (ls.take i) l HT.out).1
    by_cases hlt : i < ls.length
    · obtain ⟨ad, e1, x0, x1⟩ := at_T24 (C_only HC.out HO.out Hne.out) (i : Int) (by omega) (by omega)
      subst e1
      rw [Int.toNat_natCast, rd_get ls i hlt] at x0 x1
      have hlt' : (i : Int) < (ls.length : Int) := by omega
      have hone : Aside0 (putV l (ls.take (i + 1)) = putOneV (putV l (ls.take i)) ls[i]) := ⟨foldl_snoc putOneV l ls i hlt⟩
      generalize ls[i] = X at *
      obtain ⟨F, M⟩ := X
      simp only at x0 x1
      have Hv := Aside0.mk (valid_eq F M 64 (by decide))
      obtain ⟨kk, rfl⟩ : ∃ z, gk = z + 1 := ⟨gk - 1, by omega⟩
      by_cases hw : wh F M
      · have Hv2 : Aside0 (span_Valid.f F M 64 = some true) := ⟨by rw [Hv.out, decide_eq_true ⟨hw, hw.2.2⟩]⟩
        have hone2 : Aside0 (putV l (ls.take (i + 1)) = addV (putV l (ls.take i)) ⟨F, M⟩) := ⟨by rw [hone.out]; unfold putOneV; rw [if_pos hw]⟩
        have Hw := Aside0.mk hw
        clear hw hone Hv
        go_wp2_with fail
        refine (span_Valid.calls F M 64 true _ Hv2.out).mono ?_
        rintro e w2 ⟨rfl, hB⟩
        have HX2 : Aside0 (Blk w2 wr.heap.size 24 #[.int .i64 F, .int .i64 M]) := ⟨(Blk.new wr _ _).keep hB⟩
        have HO2 : Aside0 (Only w w2 g) := ⟨only_below (only_alloc HO.out _) hB⟩
        have HR2 : Aside0 (RunsAt w2 base g (putV l (ls.take i))) := ⟨(HR.out.keep (below_alloc (Below.refl _ _) _)).keep hB⟩
        have c1 := HX2.out.cell (i := 0) rfl
        have c2 := HX2.out.cell (i := 1) rfl
        clear hB x0 x1
        go_wp2_with fail
        refine (runs_add base g _ F M _ HR2.out HTi.out Hw.out (by have := HO2.out.size; have := Hbase.out; omega)).mono ?_
        rintro e w3 ⟨rfl, hr, ho⟩
        have HO3 : Aside0 (Only w w3 g) := ⟨only_trans HO2.out ho⟩
        have HR3 := Aside0.mk hr
        clear hr ho c1 c2
        go_wp2_with fail
        go_roundg kk
        case measure => omega
        case rel => exact ⟨i + 1, by omega, by go_num, HO3, by rw [hone2.out]; exact HR3⟩
      · have Hv2 : Aside0 (span_Valid.f F M 64 = some false) := ⟨by rw [Hv.out, decide_eq_false (fun h => hw h.1)]⟩
        have hone2 : Aside0 (putV l (ls.take (i + 1)) = putV l (ls.take i)) := ⟨by rw [hone.out]; unfold putOneV; rw [if_neg hw]⟩
        clear hw hone Hv
        go_wp2_with fail
        refine (span_Valid.calls F M 64 false _ Hv2.out).mono ?_
        rintro e w2 ⟨rfl, hB⟩
        have HO2 : Aside0 (Only w w2 g) := ⟨only_below (only_alloc HO.out _) hB⟩
        have HR2 : Aside0 (RunsAt w2 base g (putV l (ls.take i))) := ⟨(HR.out.keep (below_alloc (Below.refl _ _) _)).keep hB⟩
        clear hB x0 x1
        go_wp2_with fail
        go_roundg kk
        case measure => omega
        case rel => exact ⟨i + 1, by omega, by go_num, HO2, by rw [hone2.out]; exact HR2⟩
    · have hlt' : ¬ (i : Int) < (ls.length : Int) := by omega
      obtain rfl : i = ls.length := by omega
      rw [List.take_length] at HR HTi
      go_wp2_with fail
      refine (runs_count base g _ _ HTi.out HR.out).mono ?_
      rintro e w2 ⟨rfl, hB⟩
      obtain ⟨t0, t1⟩ := HTi.out.sum (by decide)
      have HR2 := Aside0.mk (HR.out.keep hB)
      have HO2 : Aside0 (Only w w2 g) := ⟨only_below HO.out hB⟩
      clear hB
      generalize hy : sumN (putV l ls) = y at *
      go_wp2_with fail
      go_ret
      exact ⟨by rw [hz, hy]; rfl, HR2.out, HO2.out⟩
set_option maxRecDepth 100000 in
theorem runs_put_nil (v : Value) (w : World) :
    Calls Try.prog 35 #[.pointer none, v] w fun e w' => e = .returned (.int .i64 0) ∧ Below w.heap.size w w' := by
  go_enter Try.func35, Try.ntmps35
  go_wp2_with fail
  go_ret
  exact ⟨rfl, Below.refl _ _⟩
set_option maxRecDepth 100000 in
theorem runs_cut_nil (v : Value) (w : World) :
    Calls Try.prog 36 #[.pointer none, v] w fun e w' => e = .returned (.int .i64 0) ∧ Below w.heap.size w w' := by
  go_enter Try.func36, Try.ntmps36
  go_wp2_with fail
  go_ret
  exact ⟨rfl, Below.refl _ _⟩
set_option maxRecDepth 100000 in
theorem runs_of (ls : List S24) (A : Option Addr) (c : Nat) (w : World) (hC : Kd.C k24 w A ls.length ls) :
    Calls Try.prog 31 #[.slice A ls.length c] w fun e w' => e = .returned (ptrR w.heap.size) ∧ RunsAt w' w.heap.size w.heap.size (putV [] ls) ∧ Below w.heap.size w w' := by
  have HC := Aside0.mk hC
  have Hne := Aside0.mk (off_lt hC (Nat.le_refl _))
  clear hC
  go_enter Try.func31, Try.ntmps31
  go_wp2_with fail
  refine (runs_put w.heap.size w.heap.size [] ls A c _ trivial ⟨_, Blk.new _ _ _, own_alloc (ORow.nil _ _) _⟩ (by simp) (Kd.C_below HC.out (below_alloc (Below.refl _ _) _)) Hne.out).mono ?_
  rintro e w1 ⟨rfl, hr, ho⟩
  have HR := Aside0.mk hr
  have HB : Aside0 (Below w.heap.size w w1) := ⟨below_only (below_alloc (Below.refl _ _) _) ho (Nat.le_refl _)⟩
  clear hr ho
  go_wp2_with fail
  go_ret
  exact ⟨rfl, HR.out, HB.out⟩
theorem cutV_snoc (l : List S24) (s : S24) (j : Nat) (h : j < l.length) : cutV (l.take (j + 1)) s = cutV (l.take j) s ++ lessV l[j].f0 l[j].f1 s.f0 s.f1 := by
  unfold cutV
  rw [List.take_succ_eq_append_getElem h, List.flatMap_append]; simp
theorem lessV_length (a m b n : Int) : (lessV a m b n).length ≤ 2 := by
  unfold lessV
  split
  · split
    · split <;> split <;> simp
    · simp
  · simp
theorem cutV_length {l : List S24} {s : S24} (hs : wh s.f0 s.f1) (h : Tidy 0 l) : (cutV l s).length ≤ 65 := by
  have := (cutV_spec hs (Int.le_refl _) h).1.length (by decide); omega
set_option maxRecDepth 100000 in
set_option maxHeartbeats 1600000 in
theorem runs_cut (base g : Nat) (l ls : List S24) (A : Option Addr) (c : Nat) (w : World) (hT : Tidy 0 l) (h : RunsAt w base g l) (hbase : base ≤ w.heap.size) (hC : Kd.C k24 w A ls.length ls) (hne : Off A ls.length g) :
    Calls Try.prog 36 #[ptrR g, .slice A ls.length c] w fun e w' => e = .returned (.int .i64 (sumN l - sumN (cutAllV l ls))) ∧ RunsAt w' base g (cutAllV l ls) ∧ Only w w' g := by
  have hln : ls.length ≤ 9223372036854775807 := by have := hC.2.1; unfold maxLen at this; omega
  have HT := Aside0.mk hT
  have H := Aside0.mk h
  have HC := Aside0.mk hC
  have Hne := Aside0.mk hne
  have Hbase := Aside0.mk hbase
  obtain ⟨s0, s1⟩ := hT.sum (by decide)
  clear h hT hC hne hbase
  go_enter Try.func36, Try.ntmps36
  go_wp2_with fail
  refine (runs_count base g l _ HT.out H.out).mono ?_
  rintro e w1 ⟨rfl, hB⟩
  have HO1 : Aside0 (Only w w1 g) := ⟨only_below (only_refl _ _) hB⟩
  have HR1 := Aside0.mk (H.out.keep hB)
  clear hB
  generalize hz : sumN l = z at *
  go_wp2_with fail
  go_loopg [17] ls.length (fun kq v wq => ∃ i : Nat, i + kq = ls.length ∧ v = .int .i64 (i : Int) ∧ Aside0 (Only w wq g) ∧ Aside0 (RunsAt wq base g (cutAllV l (ls.take i))))
  case atStart => exact ⟨0, by omega, rfl, HO1, HR1⟩
  case round =>
    clear HO1 HR1
    obtain ⟨i, hi, rfl, HO, HR⟩ := hrel
    have HTi := Aside0.mk (cutAllV_spec (ls.take i) l HT.out).1
    by_cases hlt : i < ls.length
    · obtain ⟨ad, e1, x0, x1⟩ := at_T24 (C_only HC.out HO.out Hne.out) (i : Int) (by omega) (by omega)
      subst e1
      rw [Int.toNat_natCast, rd_get ls i hlt] at x0 x1
      have hlt' : (i : Int) < (ls.length : Int) := by omega
      have hone : Aside0 (cutAllV l (ls.take (i + 1)) = cutOneV (cutAllV l (ls.take i)) ls[i]) := ⟨foldl_snoc cutOneV l ls i hlt⟩
      generalize ls[i] = X at *
      generalize cutAllV l (ls.take i) = cur at *
      obtain ⟨F, M⟩ := X
      simp only at x0 x1
      have Hv := Aside0.mk (valid_eq F M 64 (by decide))
      obtain ⟨kk, rfl⟩ : ∃ z, gk = z + 1 := ⟨gk - 1, by omega⟩
      by_cases hw : wh F M
      · have Hv2 : Aside0 (span_Valid.f F M 64 = some true) := ⟨by rw [Hv.out, decide_eq_true ⟨hw, hw.2.2⟩]⟩
        have hone2 : Aside0 (cutAllV l (ls.take (i + 1)) = cutV cur ⟨F, M⟩) := ⟨by rw [hone.out]; unfold cutOneV; rw [if_pos hw]⟩
        have Hw := Aside0.mk hw
        have hcl := HTi.out.length (by decide)
        clear hw hone Hv
        go_wp2_with fail
        refine (span_Valid.calls F M 64 true _ Hv2.out).mono ?_
        rintro e w2 ⟨rfl, hB⟩
        have HX2 : Aside0 (Blk w2 wr.heap.size 24 #[.int .i64 F, .int .i64 M]) := ⟨(Blk.new wr _ _).keep hB⟩
        have HO2 : Aside0 (Only w w2 g) := ⟨only_below (only_alloc HO.out _) hB⟩
        obtain ⟨v0, hb0, ho0⟩ := (HR.out.keep (below_alloc (Below.refl _ _) _)).keep hB
        obtain ⟨A0, k0, rfl, _, hC0, _⟩ := ho0.reads
        have HG2 := Aside0.mk hb0
        have HC2 := Aside0.mk hC0
        have c1 := HG2.out.cell (i := 0) rfl
        clear hB x0 x1 hb0 ho0 hC0
        go_wp2_with fail
        go_loopg [8, 29] cur.length (fun kq u v wq => ∃ j : Nat, j + kq = cur.length ∧ v = .int .i64 (j : Int) ∧ Aside0 (Below w2.heap.size w2 wq) ∧ Aside0 (ORow wq w2.heap.size u (cutV (cur.take j) ⟨F, M⟩)))
        case atStart => exact ⟨0, by omega, rfl, ⟨Below.refl _ _⟩, ⟨ORow.nil _ _⟩⟩
        case round =>
          clear c1
          obtain ⟨j, hj, rfl, HB, HU⟩ := hrel
          by_cases hjl : j < cur.length
          · obtain ⟨ad', e1, y0, y1⟩ := at_T24 (Kd.C_below HC2.out HB.out) (j : Int) (by omega) (by omega)
            subst e1
            rw [Int.toNat_natCast, rd_get cur j hjl] at y0 y1
            have hlt2 : (j : Int) < (cur.length : Int) := by omega
            have hstep := Aside0.mk (cutV_snoc cur ⟨F, M⟩ j hjl)
            have hcl2 := Aside0.mk (cutV_length (s := ⟨F, M⟩) Hw.out (HTi.out.take j))
            have Hless := Aside0.mk (less_eq cur[j].f0 cur[j].f1 F M 0)
            have hll := Aside0.mk (lessV_length cur[j].f0 cur[j].f1 F M)
            generalize cur[j] = Y at *
            obtain ⟨G, N⟩ := Y
            simp only at y0 y1 hstep Hless hll
            generalize cutV (cur.take j) ⟨F, M⟩ = o at *
            generalize lessV G N F M = ll at *
            obtain ⟨jj, rfl⟩ : ∃ z, gk = z + 1 := ⟨gk - 1, by omega⟩
            have HXw := Aside0.mk (HX2.out.below HB.out HX2.out.lt)
            have d0 := HXw.out.cell (i := 0) rfl
            have d1 := HXw.out.cell (i := 1) rfl
            have d2 := HXw.out.lt
            obtain ⟨U, ku, rfl, _, _, _⟩ := HU.out.reads
            go_wp2_with fail
            refine (span_Less.calls 1 G N F M ll _ Hless.out).mono ?_
            rintro e w3 ⟨v3, rfl, hr, hB⟩
            have ho3 := ORow.of_R hr
            have HB3 : Aside0 (Below w2.heap.size w2 w3) := ⟨below_step (below_alloc HB.out _) hB⟩
            have HU3 := Aside0.mk (ORow.below (own_alloc HU.out _) hB)
            obtain ⟨A3, k3, hv3, _, hC3, _⟩ := ho3.reads
            subst hv3
            have HC3 := Aside0.mk hC3
            clear hB y0 y1 d0 d1 d2 hC3 ho3 hr HB HU HXw
            go_wp2_with ((with_reducible refine gate_builtin (b := .append) (xs := #[.tmp 33, .tmp 36]) rfl ?_); at_builtin; refine Kd.R_append_rows k24 (Rr := k24.K w3) (w0 := w2) w2.heap.size rfl (.tmp 33) (.tmp 36) 31 24 (.agg #[(.int .i64 0), (.int .i64 0)]) 16 rfl Try.underlying31 info24' rfl (by decide) (by decide) (.slice U o.length ku) o ll A3 ll.length k3 (fun _ => True) (fun _ => False) rfl rfl HU3.out.to_R HC3.out ?aK (fun _ h => h.elim) (fun _ _ => trivial) HB3.out HB3.out.size ?aL ?_; (case aK => (intro x cs hk; rw [k24_open hk]; exact k24_mkM _ _ _ _)); (case aL => (have := hcl2.out; have := hll.out; omega)); intro v4 w4 ho hb hg hat; have HU4 := Aside0.mk (ORow.of_R ho); have HB4 := Aside0.mk hb; clear ho hb hg hat)
            go_roundg jj
            case measure => omega
            case rel => exact ⟨j + 1, by omega, by go_num, HB4, by rw [hstep.out]; exact HU4⟩
          · have hlt2 : ¬ (j : Int) < (cur.length : Int) := by omega
            obtain rfl : j = cur.length := by omega
            rw [List.take_length] at HU
            have HGw := Aside0.mk (HG2.out.below HB.out HG2.out.lt)
            have c1 := HGw.out.cell (i := 0) rfl
            have f1 := HGw.out.frozen 0
            have Hgl : Aside0 (g < w2.heap.size) := ⟨HG2.out.lt⟩
            obtain ⟨U, ku, rfl, _, _, _⟩ := HU.out.reads
            have HO4 := Aside0.mk (only_below HO2.out HB.out)
            go_wp2_with fail
            go_roundg kk
            case measure => omega
            case rel =>
              refine ⟨i + 1, by omega, by go_num, ⟨only_set HO4.out 0 _⟩, ⟨_, HGw.out.set_ 0 _, ?_⟩⟩
              rw [hone2.out]
              exact (HU.out.far (p := ⟨g, 0, none⟩) (HU.out.ne_old Hgl.out) _).lower (by have := HO2.out.size; have := Hbase.out; omega)
      · have Hv2 : Aside0 (span_Valid.f F M 64 = some false) := ⟨by rw [Hv.out, decide_eq_false (fun h => hw h.1)]⟩
        have hone2 : Aside0 (cutAllV l (ls.take (i + 1)) = cur) := ⟨by rw [hone.out]; unfold cutOneV; rw [if_neg hw]⟩
        clear hw hone Hv
        go_wp2_with fail
        refine (span_Valid.calls F M 64 false _ Hv2.out).mono ?_
        rintro e w2 ⟨rfl, hB⟩
        have HO2 : Aside0 (Only w w2 g) := ⟨only_below (only_alloc HO.out _) hB⟩
        have HR2 : Aside0 (RunsAt w2 base g cur) := ⟨(HR.out.keep (below_alloc (Below.refl _ _) _)).keep hB⟩
        clear hB x0 x1
        go_wp2_with fail
        go_roundg kk
        case measure => omega
        case rel => exact ⟨i + 1, by omega, by go_num, HO2, by rw [hone2.out]; exact HR2⟩
    · have hlt' : ¬ (i : Int) < (ls.length : Int) := by omega
      obtain rfl : i = ls.length := by omega
      rw [List.take_length] at HR HTi
      go_wp2_with fail
      refine (runs_count base g _ _ HTi.out HR.out).mono ?_
      rintro e w2 ⟨rfl, hB⟩
      obtain ⟨t0, t1⟩ := HTi.out.sum (by decide)
      have HR2 := Aside0.mk (HR.out.keep hB)
      have HO2 : Aside0 (Only w w2 g) := ⟨only_below HO.out hB⟩
      clear hB
      generalize hy : sumN (cutAllV l ls) = y at *
      go_wp2_with fail
      go_ret
      exact ⟨by rw [hz, hy]; rfl, HR2.out, HO2.out⟩
end Go.Proofs.Ytjbimnicnehnaaa.Hand
end
section
namespace Go.Proofs.Ytjbimnicnehnaaa.Hand
open Go.RowKit Go.Proofs.YtjbimnicnehnaaaW.PrintWords Go.Proofs.YtjbimnicnehnaaaW.PrintLast Go.Proofs.YtjbimnicnehnaaaW.PrintMore Go.Proofs.Ytjbimnicnehnaaa.A
set_option linter.unusedVariables false
set_option linter.unusedSimpArgs false
/-- No block of a row is free. -/
def Taken (F : Nat → Prop) (x : Value) : Prop := ∀ k, x.ownBlock = some k → ¬ F k
/-- A book: its lists of ints, spans, extents. -/
def KeptAt (w : World) (base g : Nat) (F : Nat → Prop) (LI : List (List Int)) (LS : List (List S24)) (LE : List (List S108)) : Prop :=
  ∃ VI UI VS US VE UE vi ui vs us ve ue, Blk w g 47 (bookC VI UI VS US VE UE) ∧ base ≤ g ∧ Pile (Kd.int .i64) 3 91 w base VI UI vi ui LI ∧ Pile k24 24 31 w base VS US vs us LS ∧ Pile k108 108 93 w base VE UE ve ue LE ∧ (∀ x ∈ vi ++ ui, Taken F x) ∧ (∀ x ∈ vs ++ us, Taken F x) ∧ (∀ x ∈ ve ++ ue, Taken F x)
section
variable {w w1 : World} {base g : Nat} {F F' : Nat → Prop} {LI : List (List Int)} {LS : List (List S24)} {LE : List (List S108)}
theorem Taken.mono {x : Value} (h : Taken F x) (hF : ∀ k, F' k → F k) : Taken F' x := fun k hk hf => h k hk (hF k hf)
theorem KeptAt.mono (h : KeptAt w base g F LI LS LE) (hF : ∀ k, F' k → F k) : KeptAt w base g F' LI LS LE := by
  obtain ⟨VI, UI, VS, US, VE, UE, vi, ui, vs, us, ve, ue, hb, hg, h1, h2, h3, f1, f2, f3⟩ := h
  exact ⟨VI, UI, VS, US, VE, UE, vi, ui, vs, us, ve, ue, hb, hg, h1, h2, h3, fun x hx => (f1 x hx).mono hF, fun x hx => (f2 x hx).mono hF, fun x hx => (f3 x hx).mono hF⟩
theorem KeptAt.below (h : KeptAt w base g F LI LS LE) (hB : Below w.heap.size w w1) : KeptAt w1 base g F LI LS LE := by
  obtain ⟨VI, UI, VS, US, VE, UE, vi, ui, vs, us, ve, ue, hb, hg, h1, h2, h3, f⟩ := h
  exact ⟨VI, UI, VS, US, VE, UE, vi, ui, vs, us, ve, ue, hb.keep hB, hg, h1.below hB, h2.below hB, h3.below hB, f⟩
theorem KeptAt.keep (h : KeptAt w base g F LI LS LE) (hB : Below w.heap.size w w1) : KeptAt w1 base g F LI LS LE := h.below hB
theorem KeptAt.book (h : KeptAt w base g F LI LS LE) : ∃ cs, Blk w g 47 cs := by
  obtain ⟨VI, UI, VS, US, VE, UE, vi, ui, vs, us, ve, ue, hb, _⟩ := h
  exact ⟨_, hb⟩
theorem KeptAt.lt (h : KeptAt w base g F LI LS LE) : g < w.heap.size := by
  obtain ⟨cs, hb⟩ := h.book
  exact hb.lt
theorem KeptAt.ge (h : KeptAt w base g F LI LS LE) : base ≤ g := by
  obtain ⟨VI, UI, VS, US, VE, UE, vi, ui, vs, us, ve, ue, hb, hg, _⟩ := h
  exact hg
theorem pile_lt {α : Type} {d : Kd α} {e eL : Nat} {V U : Value} {vs us : List Value} {L : List (List α)} (h : Pile d e eL w base V U vs us L) : ∀ x ∈ vs ++ us, ∀ k, x.ownBlock = some k → base ≤ k ∧ k < w.heap.size := by
  intro x hx k hk
  rcases List.mem_append.1 hx with hx | hx
  · exact h.rv.lt hx hk
  · exact h.ru.lt hx hk
theorem KeptAt.top (h : KeptAt w base g F LI LS LE) : KeptAt w base g (fun k => w.heap.size ≤ k) LI LS LE := by
  obtain ⟨VI, UI, VS, US, VE, UE, vi, ui, vs, us, ve, ue, hb, hg, h1, h2, h3, f1, f2, f3⟩ := h
  exact ⟨VI, UI, VS, US, VE, UE, vi, ui, vs, us, ve, ue, hb, hg, h1, h2, h3, fun x hx k hk hf => by have := (pile_lt h1 x hx k hk).2; omega, fun x hx k hk hf => by have := (pile_lt h2 x hx k hk).2; omega, fun x hx k hk hf => by have := (pile_lt h3 x hx k hk).2; omega⟩
/-- Blocks of other types have turned. -/
theorem KeptAt.types (h : KeptAt w base g F LI LS LE) (hm : ∀ k cs t, (t = 3 ∨ t = 91 ∨ t = 24 ∨ t = 31 ∨ t = 108 ∨ t = 93 ∨ t = 47) → base ≤ k → Blk w k t cs → Blk w1 k t cs) : KeptAt w1 base g F LI LS LE := by
  obtain ⟨VI, UI, VS, US, VE, UE, vi, ui, vs, us, ve, ue, hb, hg, h1, h2, h3, f⟩ := h
  refine ⟨VI, UI, VS, US, VE, UE, vi, ui, vs, us, ve, ue, hm _ _ _ (by simp) hg hb, hg, h1.keepT rfl (fun k cs t hk ht hbk => ?_), h2.keepT rfl (fun k cs t hk ht hbk => ?_), h3.keepT rfl (fun k cs t hk ht hbk => ?_), f⟩
  · exact (hm k cs t (by rcases ht with rfl | rfl <;> simp) hbk hk).trans hk.symm
  · exact (hm k cs t (by rcases ht with rfl | rfl <;> simp) hbk hk).trans hk.symm
  · exact (hm k cs t (by rcases ht with rfl | rfl <;> simp) hbk hk).trans hk.symm
theorem KeptAt.only {g' t : Nat} {cs : Array Value} (h : KeptAt w base g F LI LS LE) (ho : Only w w1 g') (hb : Blk w g' t cs) (ht : t ≠ 3 ∧ t ≠ 91 ∧ t ≠ 24 ∧ t ≠ 31 ∧ t ≠ 108 ∧ t ≠ 93 ∧ t ≠ 47) : KeptAt w1 base g F LI LS LE := by
  refine h.types (fun k cs' t' ht' _ hk => hk.only ho (fun e => ?_))
  subst e
  have hq := hb.hd.symm.trans hk.hd
  injection hq with hq; injection hq with _ hq
  subst hq
  rcases ht' with h | h | h | h | h | h | h
  · exact ht.1 h
  · exact ht.2.1 h
  · exact ht.2.2.1 h
  · exact ht.2.2.2.1 h
  · exact ht.2.2.2.2.1 h
  · exact ht.2.2.2.2.2.1 h
  · exact ht.2.2.2.2.2.2 h
theorem KeptAt.onlyR {g' base' : Nat} {l' : List S24} (h : KeptAt w base g F LI LS LE) (ho : Only w w1 g') (hb : RunsAt w base' g' l') : KeptAt w1 base g F LI LS LE := by
  obtain ⟨v, hb, _⟩ := hb
  exact h.only ho hb (by decide)
theorem Blk.onlyR {k t' g' base' : Nat} {cs' : Array Value} {l' : List S24} (h : Blk w k t' cs') (ho : Only w w1 g') (hb : RunsAt w base' g' l') (ht : t' ≠ 86) : Blk w1 k t' cs' := by
  obtain ⟨v, hb, _⟩ := hb
  refine h.only ho (fun e => ?_)
  subst e
  have hq := hb.hd.symm.trans h.hd
  injection hq with hq; injection hq with _ hq
  exact ht hq.symm
theorem R_onlyR {α : Type} {d : Kd α} {e B g' base' : Nat} {v : Value} {l : List α} {l' : List S24} (hE : d.E = []) (hv : Kd.R d e w B (fun _ => True) v l) (ho : Only w w1 g') (hb : RunsAt w base' g' l') (ht : e ≠ 86) : Kd.R d e w1 B (fun _ => True) v l :=
  R_moved hE hv (fun k hk => by
    obtain ⟨cs', hc⟩ := Kd.R_typed hv k hk
    exact ((show Blk w k e cs' from hc).onlyR ho hb ht).trans hc.symm)
theorem Blk.neT {k t' g' t : Nat} {cs cs' : Array Value} (h : Blk w k t' cs') (hb : Blk w g' t cs) (ht : t' ≠ t) : k ≠ g' := fun e => by
  subst e
  have hq := hb.hd.symm.trans h.hd
  injection hq with hq; injection hq with _ hq
  exact ht hq.symm
theorem Blk.onlyT {k t' g' t : Nat} {cs cs' : Array Value} (h : Blk w k t' cs') (ho : Only w w1 g') (hb : Blk w g' t cs) (ht : t' ≠ t) : Blk w1 k t' cs' := h.only ho (h.neT hb ht)
theorem R_onlyT {α : Type} {d : Kd α} {e B g' t : Nat} {v : Value} {l : List α} {cs : Array Value} (hE : d.E = []) (hv : Kd.R d e w B (fun _ => True) v l) (ho : Only w w1 g') (hb : Blk w g' t cs) (ht : e ≠ t) : Kd.R d e w1 B (fun _ => True) v l :=
  R_moved hE hv (fun k hk => by
    obtain ⟨cs', hc⟩ := Kd.R_typed hv k hk
    exact ((show Blk w k e cs' from hc).onlyT ho hb ht).trans hc.symm)
theorem RunsAt.onlyT {g' t B gr : Nat} {cs : Array Value} {l : List S24} (h : RunsAt w B gr l) (ho : Only w w1 g') (hb : Blk w g' t cs) (h1 : 86 ≠ t) (h2 : 24 ≠ t) : RunsAt w1 B gr l := by
  obtain ⟨v, hv, hr⟩ := h
  exact ⟨v, hv.onlyT ho hb h1, ORow.of_R (R_onlyT rfl hr.to_R ho hb h2)⟩
theorem KeptAt.new' (w : World) (base n : Nat) (hn : w.heap.size = n) (hb : base ≤ w.heap.size) : KeptAt (w.alloc (.cells (bookC (.slice none 0 0) (.slice none 0 0) (.slice none 0 0) (.slice none 0 0) (.slice none 0 0) (.slice none 0 0)) 47)) base n (fun k => (w.alloc (.cells (bookC (.slice none 0 0) (.slice none 0 0) (.slice none 0 0) (.slice none 0 0) (.slice none 0 0) (.slice none 0 0)) 47)).heap.size ≤ k) [] [] [] := by
  subst hn
  exact KeptAt.top (F := fun _ => True) ⟨_, _, _, _, _, _, [], [], [], [], [], [], Blk.new _ _ _, hb, Pile.nil _ _ _ _ _, Pile.nil _ _ _ _ _, Pile.nil _ _ _ _ _, by simp, by simp, by simp⟩
theorem KeptAt.new (w : World) (base : Nat) (hb : base ≤ w.heap.size) : KeptAt (w.alloc (.cells (bookC (.slice none 0 0) (.slice none 0 0) (.slice none 0 0) (.slice none 0 0) (.slice none 0 0) (.slice none 0 0)) 47)) base w.heap.size (fun _ => True) [] [] [] :=
  ⟨_, _, _, _, _, _, [], [], [], [], [], [], Blk.new _ _ _, hb, Pile.nil _ _ _ _ _, Pile.nil _ _ _ _ _, Pile.nil _ _ _ _ _, by simp, by simp, by simp⟩
/-- What a book's method leaves of the rest. -/
theorem BookFx.blkT {LT k t t' : Nat} {cs cs' : Array Value} (h : BookFx LT g base w w1) (hg : Blk w g t cs) (hb : Blk w k t' cs') (h1 : t' ≠ LT) (h2 : t' ≠ t) : Blk w1 k t' cs' :=
  h.blk hb h1 (fun e => by
    subst e
    have hq := hg.hd.symm.trans hb.hd
    injection hq with hq; injection hq with _ hq
    exact h2 hq.symm)
theorem BookFx.own {LT b e n m t : Nat} {v : Value} {xs : List Value} {cs : Array Value} (h : BookFx LT g base w w1) (hg : Blk w g t cs) (hv : w.ownsRow b e m v n xs) (h1 : e ≠ LT) (h2 : e ≠ t) : w1.ownsRow b e m v n xs :=
  own_move hv (fun k hk => by
    obtain ⟨cs', hc⟩ := own_typed hv k hk
    exact (h.blkT hg (show Blk w k e cs' from hc) h1 h2).trans hc.symm)
theorem BookFx.runs {LT B gr t : Nat} {l : List S24} {cs : Array Value} (h : BookFx LT g base w w1) (hg : Blk w g t cs) (hr : RunsAt w B gr l) (h1 : 86 ≠ LT) (h2 : 86 ≠ t) (h3 : 24 ≠ LT) (h4 : 24 ≠ t) : RunsAt w1 B gr l := by
  obtain ⟨v, hb, ho⟩ := hr
  exact ⟨v, h.blkT hg hb h1 h2, h.own hg ho h3 h4⟩
end
theorem BookFx.Rr {α : Type} {d : Kd α} {e LT g base B t : Nat} {w w1 : World} {v : Value} {l : List α} {cs : Array Value} (hE : d.E = []) (h : BookFx LT g base w w1) (hg : Blk w g t cs) (hv : Kd.R d e w B (fun _ => True) v l) (h1 : e ≠ LT) (h2 : e ≠ t) : Kd.R d e w1 B (fun _ => True) v l :=
  R_moved hE hv (fun k hk => by
    obtain ⟨cs', hc⟩ := Kd.R_typed hv k hk
    exact (h.blkT hg (show Blk w k e cs' from hc) h1 h2).trans hc.symm)
theorem taken_ne {F : Nat → Prop} {x v : Value} (h : Taken F x) (hv : ∀ k, v.ownBlock = some k → F k) : NeRow x v := fun k hk hk' => h k hk (hv k hk')
theorem kept_S (g base : Nat) (F : Nat → Prop) (LI : List (List Int)) (LS : List (List S24)) (LE : List (List S108)) (v : Value) (l : List S24) (w : World) (hk : KeptAt w base g F LI LS LE)
    (hv : Kd.R k24 24 w base (fun _ => True) v l) (hl : l.length ≤ 1000000) (hL : LS.length < 250) (hnv : ∀ k, v.ownBlock = some k → F k) (hbase : base ≤ w.heap.size) :
    Calls Try.prog 23 #[.pointer (some ⟨g, 0, none⟩), v] w fun e w' => e = .returned (.tuple #[]) ∧ KeptAt w' base g (fun k => (F k ∧ k < w.heap.size ∧ v.ownBlock ≠ some k) ∨ w'.heap.size ≤ k) LI (LS ++ [l]) LE ∧ BookFx 31 g base w w' := by
  obtain ⟨VI, UI, VS, US, VE, UE, vi, ui, vs, us, ve, ue, hb, hg, h1, h2, h3, f1, f2, f3⟩ := hk
  refine (add_Spans g base VI UI VE UE VS US vs us LS v l w hb h2 hv hl hL (fun x hx => taken_ne (f2 x hx) hnv) hbase hg).mono ?_
  rintro e w' ⟨rfl, V', U', u, hb', hP', hu, hfx⟩
  have k1 : Pile (Kd.int .i64) 3 91 w' base VI UI vi ui LI := h1.keepT rfl (fun k cs t hk ht hbk => by
    refine hfx.2 k (Array.getElem?_eq_some_iff.1 hk).1 (fun e => ?_) (fun cs' hc => ?_)
    · subst e; rw [hb.hd] at hk; injection hk with hk; injection hk with _ hk; rcases ht with rfl | rfl <;> exact absurd hk (by decide)
    · rw [hk] at hc; injection hc with hc; injection hc with _ hc; rcases ht with rfl | rfl <;> exact absurd hc (by decide))
  have k3 : Pile k108 108 93 w' base VE UE ve ue LE := h3.keepT rfl (fun k cs t hk ht hbk => by
    refine hfx.2 k (Array.getElem?_eq_some_iff.1 hk).1 (fun e => ?_) (fun cs' hc => ?_)
    · subst e; rw [hb.hd] at hk; injection hk with hk; injection hk with _ hk; rcases ht with rfl | rfl <;> exact absurd hk (by decide)
    · rw [hk] at hc; injection hc with hc; injection hc with _ hc; rcases ht with rfl | rfl <;> exact absurd hc (by decide))
  have z : w.heap.size ≤ w'.heap.size := hfx.1.size
  refine ⟨rfl, ⟨VI, UI, V', U', VE, UE, vi, ui, vs ++ [v], us ++ [u], ve, ue, hb', hg, k1, hP', k3, fun x hx k hk hf => ?_, fun x hx k hk hf => ?_, fun x hx k hk hf => ?_⟩, hfx⟩
  · rcases hf with hf | hf
    · exact f1 x hx k hk hf.1
    · have := (pile_lt k1 x hx k hk).2; omega
  · rcases hf with hf | hf
    · have hx' : x ∈ vs ++ us ∨ x = v ∨ x = u := by
        simp only [List.mem_append, List.mem_singleton] at hx ⊢
        rcases hx with (h | h) | (h | h)
        · exact .inl (.inl h)
        · exact .inr (.inl h)
        · exact .inl (.inr h)
        · exact .inr (.inr h)
      rcases hx' with hx' | rfl | rfl
      · exact f2 x hx' k hk hf.1
      · exact hf.2.2 hk
      · have := hu k hk; omega
    · have := (pile_lt hP' x hx k hk).2; omega
  · rcases hf with hf | hf
    · exact f3 x hx k hk hf.1
    · have := (pile_lt k3 x hx k hk).2; omega
theorem kept_apart (g base : Nat) (F : Nat → Prop) (LI : List (List Int)) (LS : List (List S24)) (LE : List (List S108)) (w : World) (hk : KeptAt w base g F LI LS LE)
    (bI : LI.length ≤ 250 ∧ ∀ l ∈ LI, l.length ≤ 1000000) (bS : LS.length ≤ 250 ∧ ∀ l ∈ LS, l.length ≤ 1000000) (bE : LE.length ≤ 250 ∧ ∀ l ∈ LE, l.length ≤ 1000000) (hbase : base ≤ w.heap.size) :
    Calls Try.prog 29 #[.pointer (some ⟨g, 0, none⟩)] w fun e w' => e = .returned (.bool true) ∧ Below base w w' := by
  obtain ⟨VI, UI, VS, US, VE, UE, vi, ui, vs, us, ve, ue, hb, hg, h1, h2, h3, f1, f2, f3⟩ := hk
  exact apart g base VI UI VS US VE UE vi ui vs us ve ue LI LS LE w hb h1 h2 h3 ⟨bI.1, fun i l hl => bI.2 l (List.mem_of_getElem? hl)⟩ ⟨bS.1, fun i l hl => bS.2 l (List.mem_of_getElem? hl)⟩ ⟨bE.1, fun i l hl => bE.2 l (List.mem_of_getElem? hl)⟩ hbase
theorem same_S {B B' : Nat} (u v : Value) (T : List S24) (w : World) (hu : Kd.R k24 24 w B (fun _ => True) u T) (hv : Kd.R k24 24 w B' (fun _ => True) v T) (hT : T.length ≤ 1000000) :
    Calls Try.prog 26 #[u, v] w fun e w' => e = .returned (.bool true) ∧ Below w.heap.size w w' := by
  obtain ⟨A, c, rfl, hc, hC⟩ := Kd.R_reads hu
  obtain ⟨A', c', rfl, hc', hC'⟩ := Kd.R_reads hv
  refine (emulsionbook_SameSpans.calls (T.length + 1) A c T A' c' T true w hC hc hC' hc' (sameSpans_f T (by omega) _ (by omega))).mono ?_
  rintro e w' ⟨rfl, hd⟩
  exact ⟨rfl, drawnB hd⟩
end Go.Proofs.Ytjbimnicnehnaaa.Hand
end
section
namespace Go.Proofs.Ytjbimnicnehnaaa.Hand
open Go.RowKit Go.Proofs.YtjbimnicnehnaaaW.PrintWords Go.Proofs.YtjbimnicnehnaaaW.PrintLast Go.Proofs.YtjbimnicnehnaaaW.PrintMore Go.Proofs.Ytjbimnicnehnaaa.A
set_option linter.unusedVariables false
set_option linter.unusedSimpArgs false
attribute [local go_sem] max2_int min2_int max_two min_two max_three min_three max_four min_four
attribute [local go_sem high] eqA24
/-- How many of the first k. -/
def cntS (s : List Bool) : Nat → Nat
  | 0 => 0
  | k + 1 => cntS s k + (if s.getD k false = true then 1 else 0)
theorem cntS_le (s : List Bool) : ∀ k, cntS s k ≤ k
  | 0 => Nat.le_refl _
  | k + 1 => by have := cntS_le s k; unfold cntS; split <;> omega
set_option maxRecDepth 100000 in
theorem emulsionref1_Set_Count.calls (s : List Bool) (hs : Aside0 (s.length = 64)) (w : World) :
    Calls Try.prog 25 #[.agg (setArr s)] w fun e w' => e = .returned (.int .i64 ((cntS s 64 : Nat) : Int)) ∧ Below w.heap.size w w' := by
  go_enter Try.func25, Try.ntmps25
  go_wp2_with fail
  have HB0 : Aside0 (Below w.heap.size w (w.alloc (.cells (setArr s) 30))) := ⟨below_alloc (Below.refl _ _) _⟩
  have HX0 : Aside0 (Blk (w.alloc (.cells (setArr s) 30)) w.heap.size 30 (setArr s)) := ⟨Blk.new _ _ _⟩
  go_loopg [3, 4] 64 (fun kq u v wq => ∃ k : Nat, k + kq = 64 ∧ u = .int .i64 ((cntS s k : Nat) : Int) ∧ v = .int .i64 (k : Int) ∧ Aside0 (Below w.heap.size w wq) ∧ Aside0 (Blk wq w.heap.size 30 (setArr s)))
  case atStart => exact ⟨0, by omega, rfl, rfl, HB0, HX0⟩
  case round =>
    clear HB0 HX0
    obtain ⟨k, hk, rfl, rfl, HB, HX⟩ := hrel
    by_cases hlt : k < 64
    · have hlt' : (k : Int) < 64 := by omega
      have hk0 : (0 : Int) ≤ (k : Int) := by omega
      have hcl := cntS_le s k
      have hn1 : ((cntS s k : Nat) : Int) ≤ 64 := by omega
      have hn0 : (0 : Int) ≤ ((cntS s k : Nat) : Int) := by omega
      obtain ⟨kk, rfl⟩ : ∃ z, gk = z + 1 := ⟨gk - 1, by omega⟩
      have C0 := HX.out.cell (setArr_get s k (by have := hs.out; omega))
      have Hn : Aside0 (cntS s (k + 1) = cntS s k + (if s.getD k false = true then 1 else 0)) := ⟨rfl⟩
      generalize s.getD k false = bb at *
      generalize cntS s k = m at *
      cases bb
      · go_wp2_with fail
        go_roundg kk
        case measure => omega
        case rel => exact ⟨k + 1, by omega, by rw [Hn.out]; rfl, by go_num, HB, HX⟩
      · go_wp2_with fail
        go_roundg kk
        case measure => omega
        case rel => exact ⟨k + 1, by omega, by rw [Hn.out]; go_num, by go_num, HB, HX⟩
    · have hlt' : ¬ (k : Int) < 64 := by omega
      have hk64 : k = 64 := by omega
      subst hk64
      go_wp2_with fail
      go_ret
      exact ⟨rfl, HB.out⟩
/-- How many of the first so many. -/
def cntB (f : Nat → Bool) : Nat → Nat
  | 0 => 0
  | n + 1 => cntB f n + (if f n = true then 1 else 0)
theorem cntB_congr {f g : Nat → Bool} : ∀ n, (∀ k, k < n → f k = g k) → cntB f n = cntB g n
  | 0, _ => rfl
  | n + 1, h => by unfold cntB; rw [cntB_congr n (fun k hk => h k (by omega)), h n (by omega)]
theorem cntB_add {f g h : Nat → Bool} : ∀ n, (∀ k, k < n → (f k = (g k || h k)) ∧ (g k && h k) = false) → cntB f n = cntB g n + cntB h n
  | 0, _ => rfl
  | n + 1, H => by
    unfold cntB
    rw [cntB_add n (fun k hk => H k (by omega))]
    obtain ⟨h1, h2⟩ := H n (by omega)
    rw [h1]
    cases hg : g n <;> cases hh : h n <;> rw [hg, hh] at h2 <;> simp at h2 ⊢ <;> omega
theorem cntB_none {f : Nat → Bool} : ∀ n, (∀ k, k < n → f k = false) → cntB f n = 0
  | 0, _ => rfl
  | n + 1, h => by unfold cntB; rw [cntB_none n (fun k hk => h k (by omega)), h n (by omega)]; rfl
theorem cntB_span (a m : Int) (ha : 0 ≤ a) (hm : 0 ≤ m) : ∀ n : Nat, ((cntB (fun k => decide (a ≤ (k : Int) ∧ (k : Int) < a + m)) n : Nat) : Int) = max 0 (min (n : Int) (a + m) - a)
  | 0 => by simp [cntB]; omega
  | n + 1 => by
    have ih := cntB_span a m ha hm n
    unfold cntB
    by_cases h : a ≤ (n : Int) ∧ (n : Int) < a + m
    · rw [if_pos (decide_eq_true h)]; omega
    · rw [if_neg (by simp only [decide_eq_true_eq]; exact h)]; omega
theorem sumN_cnt : ∀ {l : List S24} {lo : Int}, 0 ≤ lo → Tidy lo l → sumN l = ((cntB (fun k => memB l (k : Int)) 64 : Nat) : Int)
  | [], lo, _, _ => by rw [cntB_none (f := fun k : Nat => memB [] (k : Int)) 64 (fun k _ => rfl)]; rfl
  | x :: l, lo, h0, ⟨h1, h2, h3, h4⟩ => by
    have ih := sumN_cnt (l := l) (lo := x.f0 + x.f1 + 1) (by omega) h4
    have hs := cntB_span x.f0 x.f1 (by omega) (by omega) 64
    rw [sumN_cons, ih, cntB_add (f := fun k => memB (x :: l) (k : Int)) (g := fun k => decide (x.f0 ≤ (k : Int) ∧ (k : Int) < x.f0 + x.f1)) (h := fun k => memB l (k : Int)) 64 (fun k _ => ⟨rfl, by
      cases hm : memB l (k : Int)
      · simp
      · have := h4.ge ((memB_iff l _).1 hm)
        have : ¬ (x.f0 ≤ (k : Int) ∧ (k : Int) < x.f0 + x.f1) := by omega
        simp only [this, decide_false, Bool.false_and]⟩)]
    omega
theorem cntS_cntB (s : List Bool) : ∀ n, cntS s n = cntB (fun k => s.getD k false) n
  | 0 => rfl
  | n + 1 => by unfold cntS cntB; rw [cntS_cntB s n]
theorem sum_set {l : List S24} {s : List Bool} (h : Tidy 0 l) (hm : ∀ k : Nat, k < 64 → (mem l k ↔ s.getD k false = true)) : sumN l = ((cntS s 64 : Nat) : Int) := by
  rw [sumN_cnt (Int.le_refl _) h, cntS_cntB]
  exact congrArg Nat.cast (cntB_congr 64 (fun k hk => by rw [Bool.eq_iff_iff, memB_iff]; exact hm k hk))
theorem ORow.lit (w : World) (base : Nat) (hb : base ≤ w.heap.size) (l : List S24) (hl : l.length ≤ 1000000) (cs : Array Value) (hcs : cs.toList = flat l) : ORow (w.alloc (.cells cs 24)) base (.slice (some ⟨w.heap.size, 0, none⟩) l.length l.length) l := by
  have h := World.ownsRow_lit (base := base) (e := 24) (size := 2) w cs l.length hb (by unfold maxLen; omega) (by rw [← Array.length_toList, hcs, flat_length])
  rw [hcs] at h
  exact h
theorem C_lit (w : World) (l : List S24) (hl : l.length ≤ 1000000) (cs : Array Value) (hcs : cs.toList = flat l) : Kd.C k24 (w.alloc (.cells cs 24)) (some ⟨w.heap.size, 0, none⟩) l.length l := by
  obtain ⟨A, c, he, _, hC, _⟩ := (ORow.lit w 0 (Nat.zero_le _) l hl cs hcs).reads
  injection he with he _ _
  rw [he]; exact hC
set_option maxRecDepth 100000 in
theorem alive2 (w : World) :
    Calls Try.prog 30 #[] w fun e w' => e = .returned (.bool true) ∧ Below w.heap.size w w' := by
  go_enter Try.func30, Try.ntmps30
  go_wp2_with fail
  have h1 := runs_of [⟨0, 2⟩, ⟨2, 3⟩] (some ⟨w.heap.size, 0, none⟩) 2 _ (C_lit w [⟨0, 2⟩, ⟨2, 3⟩] (by decide) #[.int .i64 0, .int .i64 2, .int .i64 2, .int .i64 3] rfl)
  rw [show putV [] [⟨0, 2⟩, ⟨2, 3⟩] = [⟨0, 5⟩] by decide] at h1
  refine h1.mono ?_
  clear h1
  rintro e w1 ⟨rfl, hr, hB⟩
  have HR1 : Aside0 (RunsAt w1 (w.heap.size + 1) (w.heap.size + 1) [⟨0, 5⟩]) := ⟨by simpa using hr⟩
  have HB1 : Aside0 (Below w.heap.size w w1) := ⟨below_step (below_alloc (Below.refl _ _) _) hB⟩
  rw [show (w.alloc (.cells #[.int .i64 0, .int .i64 2, .int .i64 2, .int .i64 3] 24)).heap.size = w.heap.size + 1 by simp]
  clear hr hB
  go_wp2_with fail
  have hlt := HR1.out.lt
  have hs1 : w.heap.size + 1 ≤ w1.heap.size := by omega
  have h2 := runs_cut (w.heap.size + 1) (w.heap.size + 1) [⟨0, 5⟩] [⟨1, 1⟩] (some ⟨w1.heap.size, 0, none⟩) 1 (w1.alloc (.cells #[.int .i64 1, .int .i64 1] 24)) ⟨by decide, by decide, by decide, trivial⟩ (HR1.out.keep (below_alloc (Below.refl _ _) _)) (by simp; omega) (C_lit w1 [⟨1, 1⟩] (by decide) _ rfl) (fun _ a ha => by injection ha with ha; subst ha; simp; omega)
  rw [show sumN [⟨0, 5⟩] - sumN (cutAllV [⟨0, 5⟩] [⟨1, 1⟩]) = 1 by decide, show cutAllV [⟨0, 5⟩] [⟨1, 1⟩] = [⟨0, 1⟩, ⟨2, 3⟩] by decide] at h2
  clear hlt hs1
  refine h2.mono ?_
  clear h2
  rintro e w2 ⟨rfl, hr, ho⟩
  have HB2 : Aside0 (Below w.heap.size w w2) := ⟨below_only (below_alloc HB1.out _) ho (by omega)⟩
  have HR2 := Aside0.mk hr
  clear hr ho HR1 HB1
  go_wp2_with fail
  refine (runs_all (w.heap.size + 1) (w.heap.size + 1) _ (by decide) w2 HR2.out).mono ?_
  rintro e w3 ⟨v, rfl, ho, hB⟩
  obtain ⟨g3, c, rfl, hlc, _, _, hc, _⟩ := ho.opened (by decide)
  have HB3 : Aside0 (Below w.heap.size w w3) := ⟨below_step HB2.out hB⟩
  have HR3 := Aside0.mk (HR2.out.keep hB)
  have x0 : w3.cell? ⟨g3, 0, none⟩ = some (.int .i64 0) := (hc 0 _ rfl).1
  have x1 : w3.cell? ⟨g3, 1, none⟩ = some (.int .i64 1) := (hc 0 _ rfl).2
  have y0 : w3.cell? ⟨g3, 2, none⟩ = some (.int .i64 2) := (hc 1 _ rfl).1
  have y1 : w3.cell? ⟨g3, 3, none⟩ = some (.int .i64 3) := (hc 1 _ rfl).2
  clear hc ho hB HB2 HR2 hlc
  go_wp2_with fail
  refine (runs_count (w.heap.size + 1) (w.heap.size + 1) [⟨0, 1⟩, ⟨2, 3⟩] w3 ⟨by decide, by decide, by decide, by decide, by decide, by decide, trivial⟩ HR3.out).mono ?_
  rintro e w4 ⟨rfl, hB⟩
  have HB4 : Aside0 (Below w.heap.size w w4) := ⟨below_step HB3.out hB⟩
  rw [show sumN [⟨0, 1⟩, ⟨2, 3⟩] = 4 by decide]
  clear hB
  go_wp2_with fail
  go_ret
  exact ⟨rfl, HB4.out⟩
end Go.Proofs.Ytjbimnicnehnaaa.Hand
end
section
namespace Go.Proofs.Ytjbimnicnehnaaa.Hand
open Go.RowKit Go.Proofs.YtjbimnicnehnaaaW.PrintWords Go.Proofs.YtjbimnicnehnaaaW.PrintLast Go.Proofs.YtjbimnicnehnaaaW.PrintMore Go.Proofs.Ytjbimnicnehnaaa.A
set_option linter.unusedVariables false
set_option linter.unusedSimpArgs false
theorem wmem_cons (y : S24) (a : List S24) (k : Int) : wmem (y :: a) k ↔ (wh y.f0 y.f1 ∧ inSp y k) ∨ wmem a k := by
  unfold wmem
  constructor
  · rintro ⟨s, hs, h⟩
    rcases List.mem_cons.1 hs with rfl | hs
    · exact .inl h
    · exact .inr ⟨s, hs, h⟩
  · rintro (h | ⟨s, hs, h⟩)
    · exact ⟨y, List.mem_cons_self, h⟩
    · exact ⟨s, List.mem_cons_of_mem _ hs, h⟩
theorem putS_on (k : Nat) : ∀ (a : List S24) (s : List Bool), s.length = 64 → ((putS s a true).getD k false = true ↔ s.getD k false = true ∨ wmem a (k : Int))
  | [], s, _ => by
    show s.getD k false = true ↔ _
    unfold wmem; simp
  | y :: a, s, hs => by
    have ih := putS_on k a (putOne s y true) ((putOne_length s y true).trans hs)
    show (putS (putOne s y true) a true).getD k false = true ↔ _
    rw [ih, putOne_get _ _ _ _ hs, wmem_cons]
    unfold inSp
    by_cases h : wh y.f0 y.f1 ∧ y.f0 ≤ (k : Int) ∧ (k : Int) < y.f0 + y.f1
    · rw [if_pos h]; exact ⟨fun _ => .inr (.inl h), fun _ => .inl rfl⟩
    · rw [if_neg h]
      have h' : ¬ (wh y.f0 y.f1 ∧ y.f0 ≤ (k : Int) ∧ (k : Int) < y.f0 + y.f1) := h
      constructor
      · rintro (q | q)
        · exact .inl q
        · exact .inr (.inr q)
      · rintro (q | q | q)
        · exact .inl q
        · exact absurd q h'
        · exact .inr q
theorem putS_off (k : Nat) : ∀ (a : List S24) (s : List Bool), s.length = 64 → ((putS s a false).getD k false = true ↔ s.getD k false = true ∧ ¬ wmem a (k : Int))
  | [], s, _ => by
    show s.getD k false = true ↔ _
    unfold wmem; simp
  | y :: a, s, hs => by
    have ih := putS_off k a (putOne s y false) ((putOne_length s y false).trans hs)
    show (putS (putOne s y false) a false).getD k false = true ↔ _
    rw [ih, putOne_get _ _ _ _ hs, wmem_cons]
    unfold inSp
    by_cases h : wh y.f0 y.f1 ∧ y.f0 ≤ (k : Int) ∧ (k : Int) < y.f0 + y.f1
    · rw [if_pos h]
      constructor
      · rintro ⟨q, _⟩; cases q
      · rintro ⟨_, q⟩; exact absurd (.inl h) q
    · rw [if_neg h]
      constructor
      · rintro ⟨q, r⟩
        exact ⟨q, fun t => t.elim h r⟩
      · rintro ⟨q, r⟩
        exact ⟨q, fun t => r (.inr t)⟩
theorem putS_len (s : List Bool) (a : List S24) (on : Bool) (hs : s.length = 64) : (putS s a on).length = 64 := (putS_length a on s).trans hs
theorem spans_mem (s : List Bool) (k : Nat) (hk : k < 64) : mem (spansOf s) (k : Int) ↔ s.getD k false = true := by
  rw [spansOf_mem, Int.toNat_natCast]
  exact ⟨fun h => h.2.2, fun h => ⟨by omega, by omega, h⟩⟩
theorem spans_put (s : List Bool) (a : List S24) (hs : s.length = 64) : putV (spansOf s) a = spansOf (putS s a true) := by
  obtain ⟨h1, h2⟩ := putV_spec a (spansOf s) (spansOf_tidy s)
  refine tidy_eq h1 (fun k hk => ?_)
  rw [h2, spans_mem s k hk, putS_on k a s hs]
theorem spans_cut (s : List Bool) (a : List S24) (hs : s.length = 64) : cutAllV (spansOf s) a = spansOf (putS s a false) := by
  obtain ⟨h1, h2⟩ := cutAllV_spec a (spansOf s) (spansOf_tidy s)
  refine tidy_eq h1 (fun k hk => ?_)
  rw [h2, spans_mem s k hk, putS_off k a s hs]
theorem spans_none : spansOf none64 = [] := by
  have h : Tidy 0 ([] : List S24) := trivial
  exact (tidy_eq h (fun k hk => by rw [none64_get]; exact ⟨fun q => absurd q (mem_nil _), fun q => by cases q⟩)).symm
theorem spans_new (a : List S24) : putV [] a = spansOf (putS none64 a true) := by
  rw [← spans_put none64 a (by simp), spans_none]
theorem spans_sum (s : List Bool) : sumN (spansOf s) = ((cntS s 64 : Nat) : Int) := sum_set (spansOf_tidy s) (fun k hk => spans_mem s k hk)
theorem spans_memB (s : List Bool) (k : Int) : memB (spansOf s) k = (decide (0 ≤ k) && decide (k < 64) && s.getD k.toNat false) := by
  rw [Bool.eq_iff_iff, memB_iff, spansOf_mem]
  simp [and_assoc]
theorem spans_len (s : List Bool) : (spansOf s).length ≤ 65 := by have := (spansOf_tidy s).length (by decide); omega
theorem runs_same_yes (base g base' g' : Nat) (s : List Bool) (w : World) (h : RunsAt w base g (spansOf s)) (h' : RunsAt w base' g' (spansOf s)) :
    Calls Try.prog 34 #[ptrR g, ptrR g'] w fun e w' => e = .returned (.bool true) ∧ Below w.heap.size w w' := by
  refine (runs_same base g base' g' _ _ w (spansOf_tidy s) (spansOf_tidy s) h h').mono ?_
  rintro e w' ⟨rfl, hB⟩
  exact ⟨by rw [decide_eq_true rfl], hB⟩
theorem runs_cnt (base g : Nat) (s : List Bool) (n : Nat) (hn : cntS s 64 = n) (w : World) (h : RunsAt w base g (spansOf s)) :
    Calls Try.prog 33 #[ptrR g] w fun e w' => e = .returned (.int .i64 (n : Int)) ∧ Below w.heap.size w w' := by
  refine (runs_count base g _ w (spansOf_tidy s) h).mono ?_
  rintro e w' ⟨rfl, hB⟩
  exact ⟨by rw [spans_sum, hn], hB⟩
theorem runs_count0 (base g : Nat) (w : World) (h : RunsAt w base g []) :
    Calls Try.prog 33 #[ptrR g] w fun e w' => e = .returned (.int .i64 0) ∧ Below w.heap.size w w' := runs_count base g [] w trivial h
theorem set_cnt (s : List Bool) (n : Nat) (hs : s.length = 64) (hn : cntS s 64 = n) (w : World) :
    Calls Try.prog 25 #[.agg (setArr s)] w fun e w' => e = .returned (.int .i64 (n : Int)) ∧ Below w.heap.size w w' := by
  refine (emulsionref1_Set_Count.calls s ⟨hs⟩ w).mono ?_
  rintro e w' ⟨rfl, hB⟩
  exact ⟨by rw [hn], hB⟩
end Go.Proofs.Ytjbimnicnehnaaa.Hand
end
section
namespace Go.Proofs.Ytjbimnicnehnaaa.Hand
open Go.RowKit Go.Proofs.YtjbimnicnehnaaaW.PrintWords Go.Proofs.YtjbimnicnehnaaaW.PrintLast Go.Proofs.YtjbimnicnehnaaaW.PrintMore Go.Proofs.Ytjbimnicnehnaaa.A
set_option linter.unusedVariables false
set_option linter.unusedSimpArgs false
theorem runs_put_cnt (base g : Nat) (s s1 : List Bool) (ls : List S24) (A : Option Addr) (c n n1 : Nat) (w : World) (hs : s.length = 64) (hs1 : s1 = putS s ls true) (hn : cntS s 64 = n) (hn1 : cntS s1 64 = n1) (h : RunsAt w base g (spansOf s)) (hbase : base ≤ w.heap.size) (hC : Kd.C k24 w A ls.length ls) (hne : Off A ls.length g) :
    Calls Try.prog 35 #[ptrR g, .slice A ls.length c] w fun e w' => e = .returned (.int .i64 ((n1 : Int) - (n : Int))) ∧ RunsAt w' base g (spansOf s1) ∧ Only w w' g := by
  refine (runs_put base g _ ls A c w (spansOf_tidy s) h hbase hC hne).mono ?_
  rintro e w' ⟨rfl, hr, ho⟩
  rw [spans_put s ls hs, ← hs1] at hr
  exact ⟨by rw [spans_put s ls hs, ← hs1, spans_sum, spans_sum, hn, hn1], hr, ho⟩
theorem runs_cut_cnt (base g : Nat) (s s1 : List Bool) (ls : List S24) (A : Option Addr) (c n n1 : Nat) (w : World) (hs : s.length = 64) (hs1 : s1 = putS s ls false) (hn : cntS s 64 = n) (hn1 : cntS s1 64 = n1) (h : RunsAt w base g (spansOf s)) (hbase : base ≤ w.heap.size) (hC : Kd.C k24 w A ls.length ls) (hne : Off A ls.length g) :
    Calls Try.prog 36 #[ptrR g, .slice A ls.length c] w fun e w' => e = .returned (.int .i64 ((n : Int) - (n1 : Int))) ∧ RunsAt w' base g (spansOf s1) ∧ Only w w' g := by
  refine (runs_cut base g _ ls A c w (spansOf_tidy s) h hbase hC hne).mono ?_
  rintro e w' ⟨rfl, hr, ho⟩
  rw [spans_cut s ls hs, ← hs1] at hr
  exact ⟨by rw [spans_cut s ls hs, ← hs1, spans_sum, spans_sum, hn, hn1], hr, ho⟩
theorem runs_nextE (base g : Nat) (s : List Bool) (k n1 n2 : Int) (n3 : Bool) (hk0 : -9223372036854775808 ≤ k) (hk1 : k ≤ 9223372036854775807) (hv : nextV (spansOf s) k = (n1, n2, n3)) (w : World) (h : RunsAt w base g (spansOf s)) :
    Calls Try.prog 32 #[ptrR g, .int .i64 k] w fun e w' => e = .returned (.tuple #[.agg #[.int .i64 n1, .int .i64 n2], .bool n3]) ∧ Below w.heap.size w w' := by
  refine (runs_next base g _ k hk0 hk1 w (spansOf_tidy s) h).mono ?_
  rintro e w' ⟨rfl, hB⟩
  exact ⟨by rw [hv], hB⟩
theorem runs_hasE (base g : Nat) (s : List Bool) (k : Int) (b : Bool) (hb : (decide (0 ≤ k) && decide (k < 64) && s.getD k.toNat false) = b) (w : World) (h : RunsAt w base g (spansOf s)) :
    Calls Try.prog 42 #[ptrR g, .int .i64 k] w fun e w' => e = .returned (.bool b) ∧ Below w.heap.size w w' := by
  refine (runs_has base g _ k w (spansOf_tidy s) h).mono ?_
  rintro e w' ⟨rfl, hB⟩
  exact ⟨by rw [spans_memB, hb], hB⟩
theorem runs_copyE (base g : Nat) (l : List S24) (hl : l.length ≤ 1000000) (w : World) (h : RunsAt w base g l) :
    Calls Try.prog 41 #[ptrR g] w fun e w' => ∃ g', e = .returned (ptrR g') ∧ w.heap.size ≤ g' ∧ RunsAt w' w.heap.size g' l ∧ Below w.heap.size w w' :=
  runs_copy_of (ptrR g) l w (runs_all base g l hl w h)
theorem runs_copy_nil (w : World) :
    Calls Try.prog 41 #[.pointer none] w fun e w' => ∃ g', e = .returned (ptrR g') ∧ w.heap.size ≤ g' ∧ RunsAt w' w.heap.size g' [] ∧ Below w.heap.size w w' :=
  runs_copy_of (.pointer none) [] w (runs_all_nil w)
theorem runs_same_nil (base g : Nat) (w : World) (h : RunsAt w base g []) :
    Calls Try.prog 34 #[.pointer none, ptrR g] w fun e w' => e = .returned (.bool true) ∧ Below w.heap.size w w' := by
  have H := Aside0.mk h
  have Hq := Aside0.mk (eq_f [] [] (by decide))
  rw [decide_eq_true rfl] at Hq
  clear h
  go_enter Try.func34, Try.ntmps34
  go_wp2_with fail
  refine (runs_all_nil w).mono ?_
  rintro e w1 ⟨v, rfl, ho, hB⟩
  obtain ⟨A, c, rfl, hlc, hC, _⟩ := ho.reads
  have HB1 := Aside0.mk hB
  have HC := Aside0.mk hC
  have Hlc := Aside0.mk hlc
  clear ho hC hB hlc
  go_wp2_with fail
  refine (runs_all base g [] (by decide) w1 (H.out.keep HB1.out)).mono ?_
  rintro e w2 ⟨v, rfl, ho, hB⟩
  obtain ⟨A', c', rfl, hlc, hC, _⟩ := ho.reads
  have HB2 : Aside0 (Below w.heap.size w w2) := ⟨below_step HB1.out hB⟩
  have HC1 := Aside0.mk (Kd.C_below HC.out hB)
  have HC2 := Aside0.mk hC
  have Hlc2 := Aside0.mk hlc
  clear ho hC hB hlc
  go_wp2_with fail
  refine (api_Span_74.calls ([] : List S24).length.succ A c [] A' c' [] _ _ HC1.out Hlc.out HC2.out Hlc2.out Hq.out).mono ?_
  rintro e w3 ⟨rfl, hd⟩
  have HB3 : Aside0 (Below w.heap.size w w3) := ⟨below_step HB2.out (drawn_below hd)⟩
  clear hd
  go_wp2_with fail
  go_ret
  exact ⟨rfl, HB3.out⟩
theorem runs_put_one (base g : Nat) (s : List Bool) (a : Addr) (c : Nat) (F M : Int) (w : World) (hs : s.length = 64) (h : RunsAt w base g (spansOf s)) (hbase : base ≤ w.heap.size) (hC : Kd.C k24 w (some a) 1 [⟨F, M⟩]) (hne : a.block ≠ g) :
    Calls Try.prog 35 #[ptrR g, .slice (some a) 1 c] w fun e w' => ∃ z : Int, e = .returned (.int .i64 z) ∧ RunsAt w' base g (spansOf (putS s [⟨F, M⟩] true)) ∧ Only w w' g := by
  refine (runs_put base g _ [⟨F, M⟩] (some a) c w (spansOf_tidy s) h hbase hC (fun _ b hb => by injection hb with hb; subst hb; exact hne)).mono ?_
  rintro e w' ⟨rfl, hr, ho⟩
  rw [spans_put s _ hs] at hr
  exact ⟨_, rfl, hr, ho⟩
theorem runs_cut_any (base g : Nat) (s : List Bool) (ls : List S24) (A : Option Addr) (c : Nat) (w : World) (hs : s.length = 64) (h : RunsAt w base g (spansOf s)) (hbase : base ≤ w.heap.size) (hC : Kd.C k24 w A ls.length ls) (hne : Off A ls.length g) :
    Calls Try.prog 36 #[ptrR g, .slice A ls.length c] w fun e w' => ∃ z : Int, e = .returned (.int .i64 z) ∧ RunsAt w' base g (spansOf (putS s ls false)) ∧ Only w w' g := by
  refine (runs_cut base g _ ls A c w (spansOf_tidy s) h hbase hC hne).mono ?_
  rintro e w' ⟨rfl, hr, ho⟩
  rw [spans_cut s ls hs] at hr
  exact ⟨_, rfl, hr, ho⟩
theorem off_fr {A : Option Addr} {n c m g B : Nat} (h : ∀ k, Value.ownBlock (.slice A n c) = some k → B ≤ k) (hg : g < B) : Off A m g := fun _ a ha e => by
  subst ha
  have := h a.block rfl
  omega
end Go.Proofs.Ytjbimnicnehnaaa.Hand
end
