/- Parts of the proof for SpanSplits: Law1, WaSpanSplits. -/
import Derived.Deep.WholeRow
import Derived.Test.YtjbimnicnehnaaaJSpanSplits5
import Derived.Test.YtjbimnicnehnaaaJSpanSplits4
import Derived.Test.YtjbimnicnehnaaaJSpanSplits3
import Derived.Test.YtjbimnicnehnaaaJSpanSplits2
section
namespace Go.Proofs.Ytjbimnicnehnaaa.Hand
open Go.RowKit Go.Proofs.YtjbimnicnehnaaaW.PrintWords Go.Proofs.YtjbimnicnehnaaaW.PrintLast Go.Proofs.YtjbimnicnehnaaaW.PrintMore Go.Proofs.Ytjbimnicnehnaaa.A
set_option linter.unusedVariables false
set_option linter.unusedSimpArgs false
attribute [local go_sem] max2_int min2_int max_two min_two max_three min_three max_four min_four
attribute [local go_sem high] eqA24
/-- What two spans have in common, and the one without the other. -/
def splitV (a m b n : Int) : List S24 := if laps a m b n then lessV a m b n ++ [⟨max a b, min (a + m) (b + n) - max a b⟩] else lessV a m b n
theorem split_spec {a m b n : Int} (h : wh a m) : (∀ x ∈ splitV a m b n, wh x.f0 x.f1) ∧ sumN (splitV a m b n) = m ∧ ∀ k, mem (splitV a m b n) k ↔ a ≤ k ∧ k < a + m := by
  unfold splitV lessV
  rw [if_pos h]
  by_cases hl : laps a m b n
  · rw [if_pos hl, if_pos hl]
    obtain ⟨_, h2, h3⟩ := hl
    obtain ⟨a0, a1, a2⟩ := h
    obtain ⟨b0, b1, b2⟩ := h2
    by_cases c1 : a < b <;> by_cases c2 : b + n < a + m
    · rw [if_pos c1, if_pos c2]
      refine ⟨fun x hx => ?_, by simp [sumN]; omega, fun k => ?_⟩
      · simp at hx; rcases hx with rfl | rfl | rfl <;> (unfold wh; simp; omega)
      · simp only [mem, inSp, List.mem_append, List.mem_singleton, exists_eq_or_imp, or_and_right, exists_or, exists_eq_left]; omega
    · rw [if_pos c1, if_neg c2]
      refine ⟨fun x hx => ?_, by simp [sumN]; omega, fun k => ?_⟩
      · simp at hx; rcases hx with rfl | rfl <;> (unfold wh; simp; omega)
      · simp only [mem, inSp, List.append_nil, List.mem_append, List.mem_singleton, exists_eq_or_imp, or_and_right, exists_or, exists_eq_left]; omega
    · rw [if_neg c1, if_pos c2]
      refine ⟨fun x hx => ?_, by simp [sumN]; omega, fun k => ?_⟩
      · simp at hx; rcases hx with rfl | rfl <;> (unfold wh; simp; omega)
      · simp only [mem, inSp, List.nil_append, List.mem_append, List.mem_singleton, exists_eq_or_imp, or_and_right, exists_or, exists_eq_left]; omega
    · rw [if_neg c1, if_neg c2]
      refine ⟨fun x hx => ?_, by simp [sumN]; omega, fun k => ?_⟩
      · simp at hx; rcases hx with rfl; (unfold wh; simp; omega)
      · simp only [mem, inSp, List.nil_append, List.mem_singleton, exists_eq_left]; omega
  · rw [if_neg hl, if_neg hl]
    refine ⟨fun x hx => ?_, by simp [sumN], fun k => ?_⟩
    · rw [List.mem_singleton.1 hx]; exact h
    · simp only [mem, inSp, List.mem_singleton, exists_eq_left]
theorem split_len (a m b n : Int) : (splitV a m b n).length ≤ 3 := by
  unfold splitV
  have := lessV_length a m b n
  split <;> simp <;> omega
theorem split_set {a m b n : Int} (h : wh a m) : putS none64 (splitV a m b n) true = putS none64 [⟨a, m⟩] true := by
  obtain ⟨h1, _, h3⟩ := split_spec (b := b) (n := n) h
  refine bools_ext (putS_len _ _ _ (by simp)) (putS_len _ _ _ (by simp)) (fun k hk => ?_)
  rw [putS_on k _ _ (by simp), putS_on k _ _ (by simp), none64_get]
  have e : wmem (splitV a m b n) (k : Int) ↔ wmem [⟨a, m⟩] (k : Int) := by
    constructor
    · rintro ⟨s, hs, _, hk'⟩
      exact ⟨⟨a, m⟩, List.mem_singleton.2 rfl, h, (h3 k).1 ⟨s, hs, hk'⟩⟩
    · rintro ⟨s, hs, _, hk'⟩
      obtain rfl := List.mem_singleton.1 hs
      obtain ⟨x, hx, hk2⟩ := (h3 k).2 hk'
      exact ⟨x, hx, h1 x hx, hk2⟩
  rw [e]
set_option maxRecDepth 100000 in
theorem alive1 (w : World) :
    Calls Try.prog 13 #[] w fun e w' => e = .returned (.bool true) ∧ Below w.heap.size w w' := by
  go_enter Try.func13, Try.ntmps13
  go_wp2_with fail
  refine (span_Less.calls 1 2 6 4 2 [⟨2, 2⟩, ⟨6, 2⟩] _ (by rw [less_eq]; decide)).mono ?_
  rintro e w1 ⟨v, rfl, hr, hB⟩
  have ho := ORow.of_R hr
  obtain ⟨g, c, rfl, hlc, hbg, hgl, hc, _⟩ := ho.opened (by decide)
  have HB := Aside0.mk hB
  have x0 : w1.cell? ⟨g, 0, none⟩ = some (.int .i64 2) := (hc 0 _ rfl).1
  have x1 : w1.cell? ⟨g, 1, none⟩ = some (.int .i64 2) := (hc 0 _ rfl).2
  have y0 : w1.cell? ⟨g, 2, none⟩ = some (.int .i64 6) := (hc 1 _ rfl).1
  have y1 : w1.cell? ⟨g, 3, none⟩ = some (.int .i64 2) := (hc 1 _ rfl).2
  have Hg := Aside0.mk (show w.heap.size ≤ g ∧ g < w1.heap.size from ⟨hbg, hgl⟩)
  clear hr ho hc hB hlc hbg hgl
  go_wp2_with fail
  refine (span_Blocks.calls 7 2 0 2 true _ (by rw [blocks_yes (by decide) (by decide) (by decide) (by decide)]; decide)).mono ?_
  rintro e w2 ⟨rfl, hB⟩
  replace x0 := keep hB x0
  replace x1 := keep hB x1
  replace y0 := keep hB y0
  replace y1 := keep hB y1
  have Hgl : Aside0 (g < w2.heap.size) := ⟨Nat.lt_of_lt_of_le Hg.out.2 hB.size⟩
  have HB2 := Aside0.mk (below_step HB.out hB)
  have hgl2 : g < w2.heap.size := Hgl.out
  clear hB HB
  go_wp2_with fail
  go_ret
  exact ⟨rfl, by repeat (first | exact HB2.out | apply below_alloc | (refine Below.setCell ?_ (by have := HB2.out.size; simp; omega) _))⟩
theorem C_lit1 (W : World) (n : Nat) (hn : W.heap.size = n) (a m : Int) : Kd.C k24 (W.alloc (.cells #[.int .i64 a, .int .i64 m] 24)) (some ⟨n, 0, none⟩) 1 [⟨a, m⟩] := by
  subst hn
  exact C_lit W [⟨a, m⟩] (by simp) _ rfl
set_option maxRecDepth 100000 in
theorem set1 (a m : Int) (s : List Bool) (hs : s = putS none64 [⟨a, m⟩] true) (w : World) :
    Calls Try.prog 20 #[.agg #[.int .i64 a, .int .i64 m]] w fun e w' => e = .returned (.agg (setArr s)) ∧ Below w.heap.size w w' := by
  have Hs := Aside0.mk hs
  clear hs
  go_enter Try.func20, Try.ntmps20
  go_wp2_with fail
  have hz : #[Value.bool false, Value.bool false] = #[Value.bool false, Value.bool false] := rfl
  clear hz
  have hl : Aside0 (s.length = 64) := ⟨by rw [Hs.out]; exact putS_len _ _ _ (by simp)⟩
  refine calls_abs (fun X => Below w.heap.size w X ∧ Blk X (w.heap.size + 1) 30 (setArr (List.replicate 64 false)) ∧ Kd.C k24 X (some ⟨w.heap.size + 1 + 1, 0, none⟩) 1 [⟨a, m⟩] ∧ w.heap.size + 1 + 1 < X.heap.size) ⟨by repeat (first | exact Below.refl _ _ | apply below_alloc), (Blk.new2 _ _ _ _).alloc _, C_lit1 _ _ (by simp) a m, by simp⟩ ?_
  rintro W ⟨hb, hz, hc, hlt⟩
  have HB := Aside0.mk hb
  have HZ := Aside0.mk hz
  have HC := Aside0.mk hc
  clear hb hz hc hlt
  refine (emulsionref1_Set_Put.calls none64 ⟨by simp⟩ _ 1 [⟨a, m⟩] true _ HC.out (by simp)).mono ?_
  rintro e w1 ⟨rfl, hB⟩
  rw [← Hs.out]
  have HB1 := Aside0.mk (below_step HB.out hB)
  have HZ1 := Aside0.mk (HZ.out.keep hB)
  clear hB HB HZ HC
  go_wp2_with (with_reducible refine wpList_store_row rfl 30 (.tmp 2) (.tmp 6) rfl (w.heap.size + 1) (setArr s) rfl rfl 30 (setArr (List.replicate 64 false)) HZ1.out.hd (by rw [setArr_size, hl.out]; exact info30) (by rw [setArr_size, setArr_size, hl.out, List.length_replicate]) (setArr_one _) ?_)
  have HZ2 : Blk (w1.setRow (w.heap.size + 1) (setArr s)) (w.heap.size + 1) 30 (setArr s) := setRow_heap _ _ _ _ _ _ HZ1.out.hd
  exact bodyPost_ret (v := .agg (setArr s)) (results_cell_row rfl _ _ (w.heap.size + 1) 30 _ (0, 0) _ rfl HZ2.hd Try.underlying30 rfl (by rw [setArr_size, hl.out]; exact info30)) rfl ⟨rfl, below_setRow HB1.out (by omega) _⟩
end Go.Proofs.Ytjbimnicnehnaaa.Hand
end
section
namespace Go.Proofs.Ytjbimnicnehnaaa.WSpanSplits
open Go.RowKit Go.Proofs.YtjbimnicnehnaaaW.PrintWords Go.Proofs.YtjbimnicnehnaaaW.PrintLast Go.Proofs.YtjbimnicnehnaaaW.PrintMore Go.Proofs.Ytjbimnicnehnaaa.A Go.Proofs.Ytjbimnicnehnaaa.Hand
set_option linter.unusedVariables false
set_option linter.unusedSimpArgs false
attribute [local go_sem] max2_int min2_int max_two min_two max_three min_three max_four min_four
attribute [local go_sem high] eqA24
abbrev SP := S24
theorem elem_C {w : World} {ad : Addr} {T : List SP} (h : Kd.C k24 w (some ad) T.length T) (i : Nat) (hi : i < T.length) : Kd.C k24 w (some (ad.add (i * 2))) 1 [T[i]] := by
  have h1 := Kd.C_drop (c := T.length) (m := i) h (by omega) (Nat.le_refl _)
  rw [if_neg (by omega)] at h1
  have h2 := Kd.C_take (m := 1) h1 (by rw [List.length_drop]; omega)
  have e : (T.drop i).take 1 = [T[i]] := by rw [List.drop_eq_getElem_cons hi]; rfl
  rw [e] at h2
  exact h2
theorem put_one (s : List Bool) (hs : Aside0 (s.length = 64)) (ad : Addr) (c : Nat) (F M : Int) (w : World) (hC : Kd.C k24 w (some ad) 1 [⟨F, M⟩]) (hc : 1 ≤ c) :
    Calls Try.prog 19 #[.agg (setArr s), .slice (some ad) 1 c, .bool true] w fun e w' => e = .returned (.agg (setArr (putS s [⟨F, M⟩] true))) ∧ Below w.heap.size w w' :=
  emulsionref1_Set_Put.calls s hs (some ad) c [⟨F, M⟩] true w hC hc
theorem V_rowFar {w : World} {B g t : Nat} {v : Value} {l : List SP} {cs : Array Value} (hv : Kd.R k24 24 w B (fun _ => True) v l) (hb : Blk w g t cs) (ht : 24 ≠ t) (cs' : Array Value) : Kd.R k24 24 (w.setRow g cs') B (fun _ => True) v l :=
  R_moved rfl hv (fun k hk => by
    obtain ⟨cs2, hc⟩ := Kd.R_typed hv k hk
    exact ((show Blk w k 24 cs2 from hc).rowFar (fun e => by
      subst e
      have hq := hb.hd.symm.trans hc
      injection hq with hq; injection hq with _ hq
      exact ht hq.symm) cs').trans hc.symm)
theorem C_blk1 {w : World} {g : Nat} {p q : Int} (h : Blk w g 24 #[.int .i64 p, .int .i64 q]) : Kd.C k24 w (some ⟨g, 0, none⟩) 1 [⟨p, q⟩] := by
  refine ⟨rfl, by simp, fun _ => ⟨_, rfl, fun j x hj => ?_⟩⟩
  match j, hj with
  | 0, hj =>
    injection hj with hj
    subst hj
    refine ⟨[.int .i64 p, .int .i64 q], rfl, k24_mk w _, fun i u hu => ?_⟩
    match i, hu with
    | 0, hu => injection hu with hu; subst hu; exact h.cell (i := 0) rfl
    | 1, hu => injection hu with hu; subst hu; exact h.cell (i := 1) rfl
    | i + 2, hu => simp at hu
  | j + 1, hj => simp at hj
theorem sum_few : ∀ (l : List SP), (∀ x ∈ l, wh x.f0 x.f1) → l.length ≤ 3 → 0 ≤ sumN l ∧ sumN l ≤ 64 * (l.length : Int)
  | [], _, _ => by simp [sumN]
  | x :: l, h, hl => by
    have ih := sum_few l (fun y hy => h y (List.mem_cons_of_mem _ hy)) (by simp at hl; omega)
    have hx := h x List.mem_cons_self
    rw [sumN_cons, List.length_cons]
    omega
set_option maxRecDepth 100000 in
theorem early (a m b n : Int) (w : World) (h : ¬ wh a m) :
    Calls Try.prog 4 #[.agg #[.int .i64 a, .int .i64 m], .agg #[.int .i64 b, .int .i64 n]] w fun e w' => e = .returned (.bool true) ∧ Below w.heap.size w w' := by
  have Hw : Aside0 (emulsionref1_Whole.f a m = some false) := ⟨by rw [rwhole_eq, decide_eq_false h]⟩
  clear h
  go_enter Try.func4, Try.ntmps4
  go_wp2_with fail
  refine calls_abs (fun X => Below w.heap.size w X) (by repeat (first | exact Below.refl _ _ | apply below_alloc)) ?_
  rintro w1 hB
  have HB := Aside0.mk hB
  clear hB
  refine (emulsionref1_Whole.calls a m false _ Hw.out).mono ?_
  rintro e w2 ⟨rfl, hB⟩
  replace HB := Aside0.mk (below_step HB.out hB)
  clear hB
  go_wp2_with fail
  refine (alive1 _).mono ?_
  rintro e w3 ⟨rfl, hB⟩
  replace HB := Aside0.mk (below_step HB.out hB)
  clear hB
  go_wp2_with fail
  go_ret
  exact ⟨rfl, HB.out⟩
set_option maxRecDepth 100000 in
set_option maxHeartbeats 1600000 in
theorem main (a m b n : Int) (w : World) (h : wh a m) :
    Calls Try.prog 4 #[.agg #[.int .i64 a, .int .i64 m], .agg #[.int .i64 b, .int .i64 n]] w fun e w' => e = .returned (.bool true) ∧ Below w.heap.size w w' := by
  have Hwh := Aside0.mk h
  have Hw : Aside0 (emulsionref1_Whole.f a m = some true) := ⟨by rw [rwhole_eq, decide_eq_true h]⟩
  have HB := Aside0.mk (Below.refl w.heap.size w)
  clear h
  go_enter Try.func4, Try.ntmps4
  go_wp2_with fail
  refine calls_abs (fun X => Below w.heap.size w X ∧ Blk X w.heap.size 24 #[.int .i64 a, .int .i64 m] ∧ Blk X (w.heap.size + 1) 24 #[.int .i64 b, .int .i64 n]) ⟨by repeat (first | exact Below.refl _ _ | apply below_alloc), (Blk.new _ _ _).alloc _, Blk.new2 _ _ _ _⟩ ?_
  rintro w0 ⟨hb, h0, h1⟩
  replace HB := Aside0.mk hb
  have A0 := Aside0.mk h0
  have A1 := Aside0.mk h1
  clear hb h0 h1
  obtain ⟨g0, hg0⟩ : ∃ g, g = w.heap.size := ⟨_, rfl⟩
  rw [← hg0] at A0 A1 ⊢
  have Hg0 := Aside0.mk hg0
  clear hg0
  refine (emulsionref1_Whole.calls a m true _ Hw.out).mono ?_
  rintro e w1 ⟨rfl, hB⟩
  replace HB := Aside0.mk (below_step HB.out hB)
  replace A0 := Aside0.mk (A0.out.keep hB)
  replace A1 := Aside0.mk (A1.out.keep hB)
  clear hB
  go_wp2_with fail
  refine (alive1 _).mono ?_
  rintro e w2 ⟨rfl, hB⟩
  replace HB := Aside0.mk (below_step HB.out hB)
  replace A0 := Aside0.mk (A0.out.keep hB)
  replace A1 := Aside0.mk (A1.out.keep hB)
  clear hB
  have x0 := A0.out.cell (i := 0) (v := .int .i64 a) rfl
  have x1 := A0.out.cell (i := 1) (v := .int .i64 m) rfl
  have y0 := A1.out.cell (i := 0) (v := .int .i64 b) rfl
  have y1 := A1.out.cell (i := 1) (v := .int .i64 n) rfl
  have hz := A1.out.lt
  have hz0 : g0 < w2.heap.size := by omega

  go_upto_region 5 with (with_reducible refine wpList_store_row rfl 30 (.tmp 6) (.tmp 19) rfl (w2.heap.size) (setArr none64) rfl rfl 30 _ (heap_alloc_new _ _) (by with_unfolding_all rfl) (by with_unfolding_all rfl) (setArr_one _) ?_)
  rw [World.setRow_alloc_new]
  clear x0 x1 y0 y1 hz hz0
  have GEX : Aside0 (w.heap.size ≤ w2.heap.size ∧ g0 < w2.heap.size) := ⟨by have := HB.out.size; have := A0.out.lt; omega⟩
  refine code_abs (fun X => Below w.heap.size w X ∧ Blk X g0 24 #[.int .i64 a, .int .i64 m] ∧ Blk X (g0 + 1) 24 #[.int .i64 b, .int .i64 n] ∧ Blk X w2.heap.size 30 (setArr none64)) ⟨below_step HB.out (by repeat (first | exact Below.refl _ _ | apply below_alloc | refine Below.setCell ?_ (Nat.le_refl _) _ | refine Below.setCell ?_ (by simp) _)), A0.out.keep (by repeat (first | exact Below.refl _ _ | apply below_alloc | refine Below.setCell ?_ (Nat.le_refl _) _ | refine Below.setCell ?_ (by simp) _)), A1.out.keep (by repeat (first | exact Below.refl _ _ | apply below_alloc | refine Below.setCell ?_ (Nat.le_refl _) _ | refine Below.setCell ?_ (by simp) _)), Blk.new _ _ _⟩ ?_
  rintro w3 ⟨h_HB, h_A0, h_A1, h_SX⟩
  replace HB := Aside0.mk h_HB
  replace A0 := Aside0.mk h_A0
  replace A1 := Aside0.mk h_A1
  have SX := Aside0.mk h_SX
  clear h_HB h_A0 h_A1 h_SX
  generalize w2.heap.size = gx at *
  have x0 := A0.out.cell (i := 0) (v := .int .i64 a) rfl
  have x1 := A0.out.cell (i := 1) (v := .int .i64 m) rfl
  have y0 := A1.out.cell (i := 0) (v := .int .i64 b) rfl
  have y1 := A1.out.cell (i := 1) (v := .int .i64 n) rfl
  go_wp2_with fail
  refine (span_Less.calls 1 a m b n (lessV a m b n) _ (less_eq a m b n 0)).mono ?_
  rintro e w4 ⟨v, rfl, ho, hB⟩
  have FR_VL : Aside0 (∀ k, Value.ownBlock v = some k → w3.heap.size ≤ k) := ⟨fun k hk => Kd.R_base (ho) k hk⟩
  have VL := Aside0.mk (Kd.R_lower (ho) HB.out.size)
  clear ho
  replace HB := Aside0.mk (below_step HB.out hB)
  replace A0 := Aside0.mk (A0.out.keep hB)
  replace A1 := Aside0.mk (A1.out.keep hB)
  replace SX := Aside0.mk (SX.out.keep hB)
  clear hB
  obtain ⟨AL, cL, hve, hc0, hc1⟩ := Kd.R_reads VL.out
  subst hve
  have HC_VL := Aside0.mk hc0
  clear hc0 hc1
  clear x0 x1 y0 y1
  have Hll := Aside0.mk (lessV_length a m b n)
  by_cases hl : laps a m b n
  · obtain ⟨p, hp⟩ : ∃ p, p = max a b := ⟨_, rfl⟩
    obtain ⟨q, hq⟩ : ∃ q, q = min (a + m) (b + n) - max a b := ⟨_, rfl⟩
    have Hm : Aside0 (span_Meet.f 1 a m b n = some (p, q, true)) := ⟨by rw [meet_eq, meetV, if_pos hl, hp, hq]⟩
    have Hsp : Aside0 (splitV a m b n = lessV a m b n ++ [⟨p, q⟩]) := ⟨by rw [hp, hq]; unfold splitV; rw [if_pos hl]⟩
    clear hp hq hl
    have x0 := A0.out.cell (i := 0) (v := .int .i64 a) rfl
    have x1 := A0.out.cell (i := 1) (v := .int .i64 m) rfl
    have y0 := A1.out.cell (i := 0) (v := .int .i64 b) rfl
    have y1 := A1.out.cell (i := 1) (v := .int .i64 n) rfl
    go_wp2_with fail
    refine (span_Meet.calls 1 a m b n p q true _ Hm.out).mono ?_
    rintro e w5 ⟨rfl, hB⟩
    replace HB := Aside0.mk (below_step HB.out hB)
    replace A0 := Aside0.mk (A0.out.keep hB)
    replace A1 := Aside0.mk (A1.out.keep hB)
    replace SX := Aside0.mk (SX.out.keep hB)
    replace VL := Aside0.mk (Kd.R_below VL.out hB)
    clear hB
    clear x0 x1 y0 y1
    go_wp2_with fail
    have GE8 : Aside0 (w.heap.size ≤ w5.heap.size) := ⟨HB.out.size⟩
    refine code_abs (fun X => Below w.heap.size w X ∧ Blk X g0 24 #[.int .i64 a, .int .i64 m] ∧ Blk X (g0 + 1) 24 #[.int .i64 b, .int .i64 n] ∧ Blk X gx 30 (setArr none64) ∧ Kd.R k24 24 X w.heap.size (fun _ => True) (.slice AL (lessV a m b n).length cL) (lessV a m b n) ∧ Blk X w5.heap.size 24 #[.int .i64 p, .int .i64 q]) ⟨below_step HB.out (by repeat (first | exact Below.refl _ _ | apply below_alloc | refine Below.setCell ?_ (Nat.le_refl _) _ | refine Below.setCell ?_ (by simp) _)), A0.out.keep (by repeat (first | exact Below.refl _ _ | apply below_alloc | refine Below.setCell ?_ (Nat.le_refl _) _ | refine Below.setCell ?_ (by simp) _)), A1.out.keep (by repeat (first | exact Below.refl _ _ | apply below_alloc | refine Below.setCell ?_ (Nat.le_refl _) _ | refine Below.setCell ?_ (by simp) _)), SX.out.keep (by repeat (first | exact Below.refl _ _ | apply below_alloc | refine Below.setCell ?_ (Nat.le_refl _) _ | refine Below.setCell ?_ (by simp) _)), Kd.R_below VL.out (by repeat (first | exact Below.refl _ _ | apply below_alloc | refine Below.setCell ?_ (Nat.le_refl _) _ | refine Below.setCell ?_ (by simp) _)), Blk.new _ _ _⟩ ?_
    rintro w6 ⟨h_HB, h_A0, h_A1, h_SX, h_VL, h_M8⟩
    replace HB := Aside0.mk h_HB
    replace A0 := Aside0.mk h_A0
    replace A1 := Aside0.mk h_A1
    replace SX := Aside0.mk h_SX
    replace VL := Aside0.mk h_VL
    have M8 := Aside0.mk h_M8
    clear h_HB h_A0 h_A1 h_SX h_VL h_M8
    generalize w5.heap.size = g8 at *
    have P0 := Aside0.mk (M8.out.cell (i := 0) (v := .int .i64 p) rfl)
    have P1 := Aside0.mk (M8.out.cell (i := 1) (v := .int .i64 q) rfl)
    clear M8
    refine start_ (n := 6) (S := fun w' => Below w.heap.size w w' ∧ Blk w' g0 24 #[.int .i64 a, .int .i64 m] ∧ Blk w' gx 30 (setArr none64) ∧ Kd.R k24 24 w' w.heap.size (fun _ => True) (.slice AL (lessV a m b n).length cL) (lessV a m b n) ∧ w'.cell? ⟨g8, 0, none⟩ = some (.int .i64 p) ∧ w'.cell? ⟨g8, 1, none⟩ = some (.int .i64 q) ∧ Blk w' (g0 + 1) 24 #[.int .i64 b, .int .i64 n]) (ds := [4]) #[false, false, false, false, false, false] (by kernel_rfl) rfl rfl ⟨(below_drew1 HB.out), (A0.out.keep (below_drew1 (Below.refl _ _))), (SX.out.keep (below_drew1 (Below.refl _ _))), (Kd.R_below VL.out (below_drew1 (Below.refl _ _))), (keep (below_drew1 (Below.refl _ _)) P0.out), (keep (below_drew1 (Below.refl _ _)) P1.out), (A1.out.keep (below_drew1 (Below.refl _ _)))⟩ (fun hHeld => ?_)
    refine pure_ (i := 0) (N := some 30) (v := ?_) (a' := ?_) #[true, false, false, false, false, false] rfl rfl (by kernel_rfl) (fun _ _ _ h => h) (Or.inl ⟨by rfl, ?_⟩) ?_ ?_
    rotate_left
    · intro w'
      go_simp
      with_reducible rfl
    rotate_left
    · simp only [Act.put, List.setIfInBounds_toArray, List.set_cons_zero, List.set_cons_succ, i64_w, i32_w]
      rfl
    refine take_ (i := 2) (N := some 32) (v := ?_) (a' := ?_) #[true, false, true, false, false, false] rfl rfl (by kernel_rfl) (fun _ _ _ h => h) (Or.inl ⟨by rfl, ?_⟩) hHeld ?_ ?_
    rotate_left
    · rintro w' ⟨s0, s1, s2, s3, s4, s5, s6⟩
      go_simp
      with_reducible rfl
    rotate_left
    · simp only [Act.put, List.setIfInBounds_toArray, List.set_cons_zero, List.set_cons_succ, i64_w, i32_w]
      rfl
    refine join_ (σ := Option Addr × Nat × Nat) 2 #[true, true, true, true, false, false] (fun s_ => [(31, .slice s_.1 (lessV a m b n).length s_.2.1), (33, .slice (some ⟨s_.2.2, 0, none⟩) 1 1)]) (fun s_ w' => (Below w.heap.size w w' ∧ Blk w' g0 24 #[.int .i64 a, .int .i64 m] ∧ Blk w' gx 30 (setArr none64) ∧ Kd.R k24 24 w' w.heap.size (fun _ => True) (.slice AL (lessV a m b n).length cL) (lessV a m b n) ∧ w'.cell? ⟨g8, 0, none⟩ = some (.int .i64 p) ∧ w'.cell? ⟨g8, 1, none⟩ = some (.int .i64 q) ∧ Blk w' (g0 + 1) 24 #[.int .i64 b, .int .i64 n]) ∧ Kd.R k24 24 w' w.heap.size (fun _ => True) (.slice s_.1 (lessV a m b n).length s_.2.1) (lessV a m b n) ∧ Blk w' s_.2.2 24 #[.int .i64 p, .int .i64 q] ∧ Value.ownBlock (.slice s_.1 (lessV a m b n).length s_.2.1) ≠ some g0) ?_ ?_
    rotate_left
    · intro hCont
      refine two_ (i := 1) (j := 3) (Ni := some 31) (Nj := some 33) #[true, true, true, false, false, false] #[true, false, true, true, false, false] rfl rfl rfl rfl (by kernel_rfl) (by decide) (by decide) (fun K hK => ?_) (fun K hK => ?_)
      · skip
        refine Kd.R_append_rows_step k24 (Rr := k24.K _) (w0 := w6.drew) (w6.heap.size) (by rfl) (.const (.slice none 0 0)) (.tmp 30) 31 24 (.agg #[(.int .i64 0), (.int .i64 0)]) 16 (by rfl) Try.underlying31 info24' rfl (by decide) (by decide) (.slice none 0 0) [] (lessV a m b n) AL (lessV a m b n).length cL (fun _ => True) (fun _ => False) (by rfl) (by rfl) (Kd.R_nil _ _ _ _ _) (C_of_R hHeld.2.2.2.1).1 (by intro x cs hk; rw [k24_open hk]; exact k24_mkM _ _ _ _) (fun _ h => h.elim) (fun _ _ => trivial) (Below.refl _ _) (Nat.le_refl _) (by have := Hll.out; rw [List.length_nil]; omega) ?_
        intro v1 w31 hr hb hg hat
        rw [List.nil_append] at hr
        have hne : Value.ownBlock v1 ≠ some g0 := fun e => Nat.lt_irrefl _ (Nat.lt_of_lt_of_le hHeld.2.1.lt (Kd.R_base hr _ e))
        replace hr := Kd.R_lower hr hHeld.1.size
        obtain ⟨A1v, c1v, hv, _⟩ := Kd.R_reads hr
        subst hv
        clear hg hat
        refine hK.out _ _ ⟨(below_step hHeld.1 hb), (hHeld.2.1.keep hb), (hHeld.2.2.1.keep hb), (Kd.R_below hHeld.2.2.2.1 hb), (keep hb hHeld.2.2.2.2.1), (keep hb hHeld.2.2.2.2.2.1), (hHeld.2.2.2.2.2.2.keep hb)⟩ (fun hHeld => ?_)
        clear hK K
        refine norm_ (a' := ?_) ?_ ?_
        rotate_left
        · show Act.put _ (some 31) _ = _
          simp only [Act.put, List.setIfInBounds_toArray, List.set_cons_zero, List.set_cons_succ, i64_w, i32_w]
          rfl
        refine one_ (i := 3) (N := some 33) #[true, true, true, true, false, false] rfl rfl (by kernel_rfl) (by decide) (fun K hK => ?_)
        refine value_ (w1 := ?_) (v := ?_) (by rfl) rfl ?_ ?_
        rotate_left 2
        · go_simp
          constructor
          · rfl
          · rfl
        have hN : Blk (w31.alloc (.cells #[.int .i64 p, .int .i64 q] 24)) w31.heap.size 24 #[.int .i64 p, .int .i64 q] := Blk.new _ _ _
        replace hr := Kd.R_below hr (below_alloc (Below.refl _ _) (.cells #[.int .i64 p, .int .i64 q] 24))
        refine hK.out _ _ ⟨(below_alloc hHeld.1 _), (hHeld.2.1.keep (below_alloc (Below.refl _ _) _)), (hHeld.2.2.1.keep (below_alloc (Below.refl _ _) _)), (Kd.R_below hHeld.2.2.2.1 (below_alloc (Below.refl _ _) _)), (keep (below_alloc (Below.refl _ _) _) hHeld.2.2.2.2.1), (keep (below_alloc (Below.refl _ _) _) hHeld.2.2.2.2.2.1), (hHeld.2.2.2.2.2.2.keep (below_alloc (Below.refl _ _) _))⟩ (fun hHeld => ?_)
        clear hK K
        refine norm_ (a' := ?_) ?_ ?_
        rotate_left
        · show Act.put _ (some 33) _ = _
          simp only [Act.put, List.setIfInBounds_toArray, List.set_cons_zero, List.set_cons_succ, i64_w, i32_w]
          rfl
        exact norm_ (by simp only [putAll, Act.put, List.setIfInBounds_toArray, List.set_cons_zero, List.set_cons_succ]) (hCont (A1v, c1v, w31.heap.size) _ ⟨hHeld, hr, hN, hne⟩)
      · skip
        refine value_ (w1 := ?_) (v := ?_) (by rfl) rfl ?_ ?_
        rotate_left 2
        · go_simp
          constructor
          · rfl
          · rfl
        have hN : Blk (w6.drew.alloc (.cells #[.int .i64 p, .int .i64 q] 24)) w6.heap.size 24 #[.int .i64 p, .int .i64 q] := Blk.new _ _ _
        refine hK.out _ _ ⟨(below_alloc hHeld.1 _), (hHeld.2.1.keep (below_alloc (Below.refl _ _) _)), (hHeld.2.2.1.keep (below_alloc (Below.refl _ _) _)), (Kd.R_below hHeld.2.2.2.1 (below_alloc (Below.refl _ _) _)), (keep (below_alloc (Below.refl _ _) _) hHeld.2.2.2.2.1), (keep (below_alloc (Below.refl _ _) _) hHeld.2.2.2.2.2.1), (hHeld.2.2.2.2.2.2.keep (below_alloc (Below.refl _ _) _))⟩ (fun hHeld => ?_)
        clear hK K
        refine norm_ (a' := ?_) ?_ ?_
        rotate_left
        · show Act.put _ (some 33) _ = _
          simp only [Act.put, List.setIfInBounds_toArray, List.set_cons_zero, List.set_cons_succ, i64_w, i32_w]
          rfl
        refine one_ (i := 1) (N := some 31) #[true, true, true, true, false, false] rfl rfl (by kernel_rfl) (by decide) (fun K hK => ?_)
        refine Kd.R_append_rows_step k24 (Rr := k24.K _) (w0 := (w6.drew.alloc (.cells #[.int .i64 p, .int .i64 q] 24))) ((w6.drew.alloc (.cells #[.int .i64 p, .int .i64 q] 24)).heap.size) (by rfl) (.const (.slice none 0 0)) (.tmp 30) 31 24 (.agg #[(.int .i64 0), (.int .i64 0)]) 16 (by rfl) Try.underlying31 info24' rfl (by decide) (by decide) (.slice none 0 0) [] (lessV a m b n) AL (lessV a m b n).length cL (fun _ => True) (fun _ => False) (by rfl) (by rfl) (Kd.R_nil _ _ _ _ _) (C_of_R hHeld.2.2.2.1).1 (by intro x cs hk; rw [k24_open hk]; exact k24_mkM _ _ _ _) (fun _ h => h.elim) (fun _ _ => trivial) (Below.refl _ _) (Nat.le_refl _) (by have := Hll.out; rw [List.length_nil]; omega) ?_
        intro v1 w31 hr hb hg hat
        rw [List.nil_append] at hr
        have hne : Value.ownBlock v1 ≠ some g0 := fun e => Nat.lt_irrefl _ (Nat.lt_of_lt_of_le hHeld.2.1.lt (Kd.R_base hr _ e))
        replace hr := Kd.R_lower hr hHeld.1.size
        obtain ⟨A1v, c1v, hv, _⟩ := Kd.R_reads hr
        subst hv
        clear hg hat
        replace hN := hN.keep hb
        refine hK.out _ _ ⟨(below_step hHeld.1 hb), (hHeld.2.1.keep hb), (hHeld.2.2.1.keep hb), (Kd.R_below hHeld.2.2.2.1 hb), (keep hb hHeld.2.2.2.2.1), (keep hb hHeld.2.2.2.2.2.1), (hHeld.2.2.2.2.2.2.keep hb)⟩ (fun hHeld => ?_)
        clear hK K
        refine norm_ (a' := ?_) ?_ ?_
        rotate_left
        · show Act.put _ (some 31) _ = _
          simp only [Act.put, List.setIfInBounds_toArray, List.set_cons_zero, List.set_cons_succ, i64_w, i32_w]
          rfl
        exact norm_ (by simp only [putAll, Act.put, List.setIfInBounds_toArray, List.set_cons_zero, List.set_cons_succ]) (hCont (A1v, c1v, w6.heap.size) _ ⟨hHeld, hr, hN, hne⟩)
    rintro ⟨A1v, c1v, gN⟩ w40 ⟨hS_, hr, hN, hne⟩
    simp only at hr hN hne
    have hHeld : (Below w.heap.size w w40 ∧ Blk w40 g0 24 #[.int .i64 a, .int .i64 m] ∧ Blk w40 gx 30 (setArr none64) ∧ Kd.R k24 24 w40 w.heap.size (fun _ => True) (.slice AL (lessV a m b n).length cL) (lessV a m b n) ∧ w40.cell? ⟨g8, 0, none⟩ = some (.int .i64 p) ∧ w40.cell? ⟨g8, 1, none⟩ = some (.int .i64 q) ∧ Blk w40 (g0 + 1) 24 #[.int .i64 b, .int .i64 n]) := hS_
    refine norm_ (a' := ?_) ?_ ?_
    rotate_left
    · simp only [putAll, Act.put, List.setIfInBounds_toArray, List.set_cons_zero, List.set_cons_succ]
      rfl
    refine last_ (i := 4) (N := some 34) #[true, true, true, true, true, false] rfl rfl (by kernel_rfl) (by decide) (fun K hK => ?_)
    refine Kd.R_append_rows_step k24 (Rr := k24.K _) (w0 := w40) (w.heap.size) (by rfl) (.tmp 31) (.tmp 33) 31 24 (.agg #[(.int .i64 0), (.int .i64 0)]) 16 (by rfl) Try.underlying31 info24' rfl (by decide) (by decide) (.slice A1v (lessV a m b n).length c1v) (lessV a m b n) [⟨p, q⟩] (some ⟨gN, 0, none⟩) 1 1 (fun _ => True) (fun _ => False) (by rfl) (by rfl) hr (C_blk1 hN) (by intro x cs hk; rw [k24_open hk]; exact k24_mkM _ _ _ _) (fun _ h => h.elim) (fun _ _ => trivial) (Below.refl _ _) hHeld.1.size (by have := Hll.out; omega) ?_
    intro v2 w41 hr4 hb4 hg4 hat4
    obtain ⟨T, hT⟩ : ∃ T, T = (lessV a m b n) ++ [⟨p, q⟩] := ⟨_, rfl⟩
    rw [← hT] at hr4
    have HTe : Aside0 (T = splitV a m b n) := ⟨by rw [Hsp.out, hT]⟩
    clear hT
    obtain ⟨A2, c2, hv, _⟩ := Kd.R_reads hr4
    subst hv
    refine hK.out _ _ ?_
    clear hK K
    refine norm_ (a' := ?_) ?_ ?_
    rotate_left
    · show Act.put _ (some 34) _ = _
      simp only [Act.put, List.setIfInBounds_toArray, List.set_cons_zero, List.set_cons_succ, i64_w, i32_w]
      rfl
    refine pure_ (i := 5) (N := some 7) (v := ?_) (a' := ?_) #[true, true, true, true, true, true] rfl rfl (by kernel_rfl) (fun _ _ _ h => h) (Or.inl ⟨by rfl, ?_⟩) ?_ ?_
    rotate_left
    · intro w'
      go_simp
      with_reducible rfl
    rotate_left
    · simp only [Act.put, List.setIfInBounds_toArray, List.set_cons_zero, List.set_cons_succ, i64_w, i32_w]
      rfl
    refine done_ (by kernel_rfl) ?_
    replace HB := Aside0.mk (hHeld.1.trans hb4)
    replace A0 := Aside0.mk (hHeld.2.1.grown hg4 hne)
    have hnx := fun e => own_ne (Kd.R_own hr).choose_spec hHeld.2.2.1.hd (by decide) (Eq.symm e)
    replace SX := Aside0.mk (hHeld.2.2.1.grown hg4 hnx)
    have VT := Aside0.mk hr4
    clear hHeld hS_ hr hN hne hb4 hg4 hat4 hr4 hnx
    clear VL
    clear P0
    clear P1
    clear A1
    have TW := Aside0.mk (split_spec (b := b) (n := n) Hwh.out).1
    have TS := Aside0.mk (split_spec (b := b) (n := n) Hwh.out).2.1
    have TL := Aside0.mk (split_len a m b n)
    have TE := Aside0.mk (split_set (b := b) (n := n) Hwh.out)
    rw [← HTe.out] at TW TS TL TE
    have htl : (T.length : Int) ≤ 3 := by have := TL.out; omega
    obtain ⟨sa, hsa⟩ : ∃ s, s = putS none64 [⟨a, m⟩] true := ⟨_, rfl⟩
    rw [← hsa] at TE
    replace hsa := Aside0.mk hsa
    have hm0 : 1 ≤ m := Hwh.out.2.1
    have hm1 : m ≤ 64 := by have := Hwh.out; omega
    go_wp2_with fail
    go_loopg [5, 10] T.length (fun kq u v wz => ∃ i : Nat, i + kq = T.length ∧ u = .int .i64 (sumN (T.take i)) ∧ v = .int .i64 (i : Int) ∧ Aside0 (Below w.heap.size w wz) ∧ Aside0 (Blk wz g0 24 #[.int .i64 a, .int .i64 m]) ∧ Aside0 (Blk wz gx 30 (setArr (putS none64 (T.take i) true))) ∧ Aside0 (Kd.R k24 24 wz w.heap.size (fun _ => True) (.slice A2 T.length c2) T))
    case atStart => exact ⟨0, by omega, rfl, rfl, HB, A0, SX, VT⟩
    case round =>
      clear HB A0 SX VT
      obtain ⟨i, hi, rfl, rfl, HB, A0, SX, VT⟩ := hrel
      have hls := Aside0.mk (putS_len none64 (T.take i) true (by simp))
      by_cases hlt : i < T.length
      · have hlt' : (i : Int) < (T.length : Int) := by omega
        obtain ⟨kk, rfl⟩ : ∃ z, gk = z + 1 := ⟨gk - 1, by omega⟩
        have hC0 := (C_of_R VT.out).1
        obtain ⟨ad, e1, x0, x1⟩ := at_T24 hC0 (i : Int) (by omega) (by omega)
        subst e1
        rw [Int.toNat_natCast] at x0 x1
        have hel := Aside0.mk (elem_C hC0 i hlt)
        have hput := Aside0.mk (putS_snoc none64 T true i hlt)
        have hone := Aside0.mk (sumN_step T i hlt)
        have hwx := TW.out T[i] (List.getElem_mem hlt)
        have hs0 : 0 ≤ sumN (T.take i) ∧ sumN (T.take i) ≤ 192 := by have h1 := TL.out; have h2 := List.length_take_le i T; have h3 := sum_few (T.take i) (fun x hx => TW.out x (List.mem_of_mem_take hx)) (by omega); omega
        rw [rd_get T i hlt] at x0 x1 hput
        have hle2 : T.length ≤ c2 := (Kd.R_reads' VT.out).2.1
        generalize T[i] = X at *
        obtain ⟨F, M⟩ := X
        simp only at x0 x1 hwx hone
        obtain ⟨ti, hti, _, htz, _⟩ := info_parts info24
        have hcut := cut_mid (P := Try.prog) 31 24 .i64 .i64 Try.underlying31 hti 2 htz (some ad) T.length c2 (i : Int) ((i : Int) + 1) (by omega) (by omega) (by omega) hle2
        have e1 : (if c2 = ((i : Int)).toNat then some ad else Option.map (fun x => x.add (((i : Int)).toNat * 2)) (some ad)) = some (ad.add (i * 2)) := by rw [if_neg (by omega), Int.toNat_natCast]; rfl
        have e2 : ((i : Int) + 1).toNat - ((i : Int)).toNat = 1 := by omega
        rw [e1, e2, Int.toNat_natCast] at hcut
        clear e1 e2 hti htz
        have Hv : Aside0 (span_Valid.f F M 64 = some true) := ⟨by rw [valid_eq F M 64 (by decide), decide_eq_true ⟨hwx, hwx.2.2⟩]⟩
        have hM : 1 ≤ M ∧ M ≤ 64 := by omega
        have Hwx := Aside0.mk hwx
        clear hwx hC0
        obtain ⟨S0, hS0⟩ : ∃ z, z = sumN (T.take i) := ⟨_, rfl⟩
        rw [← hS0] at hs0 hone ⊢
        replace hS0 := Aside0.mk hS0
        obtain ⟨sb, hsb⟩ : ∃ z, z = putS none64 (T.take i) true := ⟨_, rfl⟩
        rw [← hsb] at hls hput SX
        clear hsb
        go_wp2_with fail

        have X0 := Aside0.mk x0
        have X1 := Aside0.mk x1
        have CE := Aside0.mk hel.out
        clear x0 x1 hel
        refine (span_Valid.calls F M 64 true _ Hv.out).mono ?_
        rintro e w7 ⟨rfl, hB⟩
        replace HB := Aside0.mk (below_step HB.out hB)
        replace A0 := Aside0.mk (A0.out.keep hB)
        replace SX := Aside0.mk (SX.out.keep hB)
        replace VT := Aside0.mk (Kd.R_below VT.out hB)
        replace X0 := Aside0.mk (keepP hB X0.out)
        replace X1 := Aside0.mk (keepP hB X1.out)
        replace CE := Aside0.mk (Kd.C_below CE.out hB)
        clear hB
        have x1 := X1.out
        go_wp2_with fail
        clear x1
        have hwi : wrap64 ((i : Int) + 1) = (i : Int) + 1 := w_id (by omega) (by omega)
        have hci : ¬ c2 = i := by omega
        refine start_ (n := 8) (S := fun w' => Below w.heap.size w w' ∧ Blk w' g0 24 #[.int .i64 a, .int .i64 m] ∧ Blk w' gx 30 (setArr sb) ∧ Kd.R k24 24 w' w.heap.size (fun _ => True) (.slice (some ad) T.length c2) T ∧ Kd.C k24 w' (some (ad.add (i * 2))) 1 [⟨F, M⟩]) (ds := [7]) #[false, false, false, false, false, false, false, false] (by kernel_rfl) rfl rfl ⟨(below_drew1 HB.out), (A0.out.keep (below_drew1 (Below.refl _ _))), (SX.out.keep (below_drew1 (Below.refl _ _))), (Kd.R_below VT.out (below_drew1 (Below.refl _ _))), (Kd.C_below CE.out (below_drew1 (Below.refl _ _)))⟩ (fun hHeld => ?_)
        refine pure_ (i := 1) (N := some 55) (v := ?_) (a' := ?_) #[false, true, false, false, false, false, false, false] rfl rfl (by kernel_rfl) (fun _ _ _ h => h) (Or.inl ⟨by rfl, ?_⟩) ?_ ?_
        rotate_left
        · intro w'
          go_simp
          with_reducible rfl
        rotate_left
        · simp only [Act.put, List.setIfInBounds_toArray, List.set_cons_zero, List.set_cons_succ, i64_w, i32_w]
          rfl
        refine pure_ (i := 2) (N := some 56) (v := ?_) (a' := ?_) #[false, true, true, false, false, false, false, false] rfl rfl (by kernel_rfl) (fun _ _ _ h => h) (Or.inl ⟨by rfl, ?_⟩) ?_ ?_
        rotate_left
        · intro w'
          go_simp
          with_reducible rfl
        rotate_left
        · simp only [Act.put, List.setIfInBounds_toArray, List.set_cons_zero, List.set_cons_succ, i64_w, i32_w]
          rfl
        refine pure_ (i := 3) (N := some 57) (v := ?_) (a' := ?_) #[false, true, true, true, false, false, false, false] rfl rfl (by kernel_rfl) (fun _ _ _ h => h) (Or.inl ⟨by rfl, ?_⟩) ?_ ?_
        rotate_left
        · intro w'
          go_simp
          with_reducible rfl
        rotate_left
        · simp only [Act.put, List.setIfInBounds_toArray, List.set_cons_zero, List.set_cons_succ, i64_w, i32_w]
          rfl
        refine pure_ (i := 4) (N := some 58) (v := ?_) (a' := ?_) #[false, true, true, true, true, false, false, false] rfl rfl (by kernel_rfl) (fun _ _ _ h => h) (Or.inl ⟨by rfl, ?_⟩) ?_ ?_
        rotate_left
        · intro w'
          go_simp
          with_reducible rfl
        rotate_left
        · simp only [Act.put, List.setIfInBounds_toArray, List.set_cons_zero, List.set_cons_succ, i64_w, i32_w]
          rfl
        refine pure_ (i := 5) (N := some 59) (v := ?_) (a' := ?_) #[false, true, true, true, true, true, false, false] rfl rfl (by kernel_rfl) (fun _ _ _ h => h) (Or.inl ⟨by rfl, ?_⟩) ?_ ?_
        rotate_left
        · intro w'
          go_simp
          with_reducible rfl
        rotate_left
        · simp only [Act.put, List.setIfInBounds_toArray, List.set_cons_zero, List.set_cons_succ, i64_w, i32_w]
          rfl
        refine take_ (i := 0) (N := some 54) (v := ?_) (a' := ?_) #[true, true, true, true, true, true, false, false] rfl rfl (by kernel_rfl) (fun _ _ _ h => h) (Or.inl ⟨by rfl, ?_⟩) hHeld ?_ ?_
        rotate_left
        · rintro w' ⟨s0, s1, s2, s3, s4⟩
          refine row_yields 30 (.tmp 6) ?_ gx ?_ 30 (setArr sb) (0, 0) _ s2.hd Try.underlying30 rfl (by rw [setArr_size, hls.out]; exact info30)
          · rfl
          · rfl
        rotate_left
        · simp only [Act.put, List.setIfInBounds_toArray, List.set_cons_zero, List.set_cons_succ, i64_w, i32_w]
          rfl
        refine one_ (i := 6) (N := some 60) #[true, true, true, true, true, true, true, false] rfl rfl (by kernel_rfl) (by decide) (fun K hK => ?_)
        refine goes_ Try.func19 (by kernel_rfl) rfl #[.agg (setArr sb), .slice (some (ad.add (i * 2))) 1 (c2 - i), .bool true] (by rfl) rfl rfl (by simp only [List.map_toArray, List.map_cons, List.map_nil]; rfl) ?_
        with_reducible refine (put_one sb hls (ad.add (i * 2)) (c2 - i) F M _ hHeld.2.2.2.2 (by omega)).mono ?_
        rintro e w50 ⟨rfl, hb⟩
        refine ⟨_, rfl, ?_⟩
        refine hK.out _ _ ⟨(below_step hHeld.1 hb), (hHeld.2.1.keep hb), (hHeld.2.2.1.keep hb), (Kd.R_below hHeld.2.2.2.1 hb), (Kd.C_below hHeld.2.2.2.2 hb)⟩ (fun hHeld => ?_)
        clear hK K
        refine norm_ (a' := ?_) ?_ ?_
        rotate_left
        · show Act.put _ (some 60) _ = _
          simp only [Act.put, List.setIfInBounds_toArray, List.set_cons_zero, List.set_cons_succ, i64_w, i32_w]
          rfl
        refine last_ (i := 7) (N := none) #[true, true, true, true, true, true, true, true] rfl rfl (by kernel_rfl) (by decide) (fun K hK => ?_)
        rw [if_pos (by rfl)]
        refine wp_store_row 30 (.tmp 6) (.tmp 60) (by rfl) gx (setArr (putS sb [⟨F, M⟩] true)) (by rfl) (by rfl) 30 (setArr sb) hHeld.2.2.1.hd (by rw [setArr_size, putS_len _ _ _ hls.out]; exact info30) (by rw [setArr_size, setArr_size, putS_len _ _ _ hls.out, hls.out]) (setArr_one _) ?_
        refine hK.out _ _ ?_
        clear hK K
        refine done_ (by kernel_rfl) ?_
        replace HB := Aside0.mk hHeld.1
        replace A0 := Aside0.mk hHeld.2.1
        replace SX := Aside0.mk hHeld.2.2.1
        replace VT := Aside0.mk hHeld.2.2.2.1
        replace CE := Aside0.mk hHeld.2.2.2.2
        clear hHeld
        clear X0
        clear X1
        clear hwi hci
        have HB9 : Aside0 (Below w.heap.size w (w50.setRow gx (setArr (putS sb [⟨F, M⟩] true)))) := ⟨below_setRow HB.out GEX.out.1 _⟩
        have A09 := Aside0.mk (A0.out.rowFar (show g0 ≠ gx by have := GEX.out.2; omega) (setArr (putS sb [⟨F, M⟩] true)))
        have SX9 := Aside0.mk (SX.out.row (setArr (putS sb [⟨F, M⟩] true)))
        have VT9 := Aside0.mk (V_rowFar VT.out SX.out (by decide) (setArr (putS sb [⟨F, M⟩] true)))
        clear HB A0 SX VT CE
        replace SX9 : Aside0 (Blk (w50.setRow gx (setArr (putS sb [⟨F, M⟩] true))) gx 30 (setArr (putS none64 (T.take (i + 1)) true))) := ⟨by rw [hput.out]; exact SX9.out⟩
        generalize w50.setRow gx (setArr (putS sb [⟨F, M⟩] true)) = w51 at *
        go_wp2_with fail
        go_roundg kk
        case measure => omega
        case rel => exact ⟨i + 1, by omega, by rw [hone.out], by go_num, HB9, A09, SX9, VT9⟩
      · have hlt' : ¬ (i : Int) < (T.length : Int) := by omega
        obtain rfl : i = T.length := by omega
        rw [List.take_length] at SX ⊢
        rw [TS.out]
        rw [TE.out] at SX
        have hE : ∀ W : World, (Op.equalIn 10000 30 (.agg (setArr sa)) (.agg (setArr sa))).run Try.prog W = .ok true W := fun W => by
          have h := eqSet 9998 sa sa (by rw [hsa.out]; exact putS_len _ _ _ (by simp)) (by rw [hsa.out]; exact putS_len _ _ _ (by simp)) W
          rw [eqB, decide_eq_true rfl] at h
          exact h
        have hsl : Aside0 (sa.length = 64) := ⟨by rw [hsa.out]; exact putS_len _ _ _ (by simp)⟩
        have Q0 := Aside0.mk (A0.out.cell (i := 0) (v := .int .i64 a) rfl)
        have Q1 := Aside0.mk (A0.out.cell (i := 1) (v := .int .i64 m) rfl)
        go_wp2_with fail
        refine start_ (n := 11) (S := fun w' => Below w.heap.size w w' ∧ Blk w' gx 30 (setArr sa) ∧ w'.cell? ⟨g0, 0, none⟩ = some (.int .i64 a) ∧ w'.cell? ⟨g0, 1, none⟩ = some (.int .i64 m)) (ds := []) #[false, false, false, false, false, false, false, false, false, false, false] (by kernel_rfl) rfl rfl ⟨(below_drew1 HB.out), (SX.out.keep (below_drew1 (Below.refl _ _))), (keep (below_drew1 (Below.refl _ _)) Q0.out), (keep (below_drew1 (Below.refl _ _)) Q1.out)⟩ (fun hHeld => ?_)
        refine pure_ (i := 0) (N := some 61) (v := ?_) (a' := ?_) #[true, false, false, false, false, false, false, false, false, false, false] rfl rfl (by kernel_rfl) (fun _ _ _ h => h) (Or.inl ⟨by rfl, ?_⟩) ?_ ?_
        rotate_left
        · intro w'
          go_simp
          with_reducible rfl
        rotate_left
        · simp only [Act.put, List.setIfInBounds_toArray, List.set_cons_zero, List.set_cons_succ, i64_w, i32_w]
          rfl
        refine pure_ (i := 1) (N := some 62) (v := ?_) (a' := ?_) #[true, true, false, false, false, false, false, false, false, false, false] rfl rfl (by kernel_rfl) (fun _ _ _ h => h) (Or.inl ⟨by rfl, ?_⟩) ?_ ?_
        rotate_left
        · intro w'
          go_simp
          with_reducible rfl
        rotate_left
        · simp only [Act.put, List.setIfInBounds_toArray, List.set_cons_zero, List.set_cons_succ, i64_w, i32_w]
          rfl
        refine take_ (i := 2) (N := some 63) (v := ?_) (a' := ?_) #[true, true, true, false, false, false, false, false, false, false, false] rfl rfl (by kernel_rfl) (fun _ _ _ h => h) (Or.inl ⟨by rfl, ?_⟩) hHeld ?_ ?_
        rotate_left
        · rintro w' ⟨s0, s1, s2, s3⟩
          go_simp
          with_reducible rfl
        rotate_left
        · simp only [Act.put, List.setIfInBounds_toArray, List.set_cons_zero, List.set_cons_succ, i64_w, i32_w]
          rfl
        refine pure_ (i := 3) (N := some 64) (v := ?_) (a' := ?_) #[true, true, true, true, false, false, false, false, false, false, false] rfl rfl (by kernel_rfl) (fun _ _ _ h => h) (Or.inl ⟨by rfl, ?_⟩) ?_ ?_
        rotate_left
        · intro w'
          go_simp
          with_reducible rfl
        rotate_left
        · simp only [Act.put, List.setIfInBounds_toArray, List.set_cons_zero, List.set_cons_succ, i64_w, i32_w]
          rfl
        refine pure_ (i := 4) (N := some 65) (v := ?_) (a' := ?_) #[true, true, true, true, true, false, false, false, false, false, false] rfl rfl (by kernel_rfl) (fun _ _ _ h => h) (Or.inl ⟨by rfl, ?_⟩) ?_ ?_
        rotate_left
        · intro w'
          go_simp
          with_reducible rfl
        rotate_left
        · simp only [Act.put, List.setIfInBounds_toArray, List.set_cons_zero, List.set_cons_succ, i64_w, i32_w]
          rfl
        refine take_ (i := 5) (N := some 66) (v := ?_) (a' := ?_) #[true, true, true, true, true, true, false, false, false, false, false] rfl rfl (by kernel_rfl) (fun _ _ _ h => h) (Or.inl ⟨by rfl, ?_⟩) hHeld ?_ ?_
        rotate_left
        · rintro w' ⟨s0, s1, s2, s3⟩
          refine row_yields 30 (.tmp 6) ?_ gx ?_ 30 (setArr sa) (0, 0) _ s1.hd Try.underlying30 rfl (by rw [setArr_size, hsl.out]; exact info30)
          · rfl
          · rfl
        rotate_left
        · simp only [Act.put, List.setIfInBounds_toArray, List.set_cons_zero, List.set_cons_succ, i64_w, i32_w]
          rfl
        refine take_ (i := 6) (N := some 67) (v := ?_) (a' := ?_) #[true, true, true, true, true, true, true, false, false, false, false] rfl rfl (by kernel_rfl) (fun _ _ _ h => h) (Or.inl ⟨by rfl, ?_⟩) hHeld ?_ ?_
        rotate_left
        · rintro w' ⟨s0, s1, s2, s3⟩
          go_simp
          with_reducible rfl
        rotate_left
        · simp only [Act.put, List.setIfInBounds_toArray, List.set_cons_zero, List.set_cons_succ, i64_w, i32_w]
          rfl
        refine one_ (i := 7) (N := some 68) #[true, true, true, true, true, true, true, true, false, false, false] rfl rfl (by kernel_rfl) (by decide) (fun K hK => ?_)
        refine goes_ Try.func20 (by kernel_rfl) rfl #[.agg #[.int .i64 a, .int .i64 m]] (by rfl) rfl rfl (by simp only [List.map_toArray, List.map_cons, List.map_nil]; rfl) ?_
        with_reducible refine (set1 a m sa hsa.out _).mono ?_
        rintro e w60 ⟨rfl, hb⟩
        refine ⟨_, rfl, ?_⟩
        refine hK.out _ _ ⟨(below_step hHeld.1 hb), (hHeld.2.1.keep hb), (keep hb hHeld.2.2.1), (keep hb hHeld.2.2.2)⟩ (fun hHeld => ?_)
        clear hK K
        refine norm_ (a' := ?_) ?_ ?_
        rotate_left
        · show Act.put _ (some 68) _ = _
          simp only [Act.put, List.setIfInBounds_toArray, List.set_cons_zero, List.set_cons_succ, i64_w, i32_w]
          rfl
        refine pure_ (i := 8) (N := some 69) (v := ?_) (a' := ?_) #[true, true, true, true, true, true, true, true, true, false, false] rfl rfl (by kernel_rfl) (fun _ _ _ h => h) (Or.inl ⟨by rfl, ?_⟩) ?_ ?_
        rotate_left
        · intro w'
          go_simp
          with_reducible rfl
        rotate_left
        · simp only [Act.put, List.setIfInBounds_toArray, List.set_cons_zero, List.set_cons_succ, i64_w, i32_w]
          rfl
        refine pure_ (i := 9) (N := some 70) (v := ?_) (a' := ?_) #[true, true, true, true, true, true, true, true, true, true, false] rfl rfl (by kernel_rfl) (fun _ _ _ h => h) (Or.inl ⟨by rfl, ?_⟩) ?_ ?_
        rotate_left
        · intro w'
          go_simp
          with_reducible rfl
        rotate_left
        · simp only [Act.put, List.setIfInBounds_toArray, List.set_cons_zero, List.set_cons_succ, i64_w, i32_w]
          rfl
        refine pure_ (i := 10) (N := some 4) (v := ?_) (a' := ?_) #[true, true, true, true, true, true, true, true, true, true, true] rfl rfl (by kernel_rfl) (fun _ _ _ h => h) (Or.inl ⟨by rfl, ?_⟩) ?_ ?_
        rotate_left
        · intro w'
          go_simp
          with_reducible rfl
        rotate_left
        · simp only [Act.put, List.setIfInBounds_toArray, List.set_cons_zero, List.set_cons_succ, i64_w, i32_w]
          rfl
        refine done_ (by kernel_rfl) ?_
        replace HB := Aside0.mk hHeld.1
        replace SX := Aside0.mk hHeld.2.1
        replace Q0 := Aside0.mk hHeld.2.2.1
        replace Q1 := Aside0.mk hHeld.2.2.2
        clear hHeld
        go_wp2_with fail
        go_ret
        exact ⟨rfl, HB.out⟩
  · have Hm : Aside0 (span_Meet.f 1 a m b n = some (0, 0, false)) := ⟨by rw [meet_eq, meetV, if_neg hl]⟩
    have Hsp : Aside0 (splitV a m b n = lessV a m b n) := ⟨by unfold splitV; rw [if_neg hl]⟩
    clear hl
    have x0 := A0.out.cell (i := 0) (v := .int .i64 a) rfl
    have x1 := A0.out.cell (i := 1) (v := .int .i64 m) rfl
    have y0 := A1.out.cell (i := 0) (v := .int .i64 b) rfl
    have y1 := A1.out.cell (i := 1) (v := .int .i64 n) rfl
    go_wp2_with fail
    refine (span_Meet.calls 1 a m b n 0 0 false _ Hm.out).mono ?_
    rintro e w8 ⟨rfl, hB⟩
    replace HB := Aside0.mk (below_step HB.out hB)
    replace A0 := Aside0.mk (A0.out.keep hB)
    replace A1 := Aside0.mk (A1.out.keep hB)
    replace SX := Aside0.mk (SX.out.keep hB)
    replace VL := Aside0.mk (Kd.R_below VL.out hB)
    clear hB
    clear x0 x1 y0 y1
    obtain ⟨T, hT⟩ : ∃ T, T = lessV a m b n := ⟨_, rfl⟩
    rw [← hT] at VL Hll ⊢
    have HTe : Aside0 (T = splitV a m b n) := ⟨by rw [Hsp.out, hT]⟩
    clear hT
    obtain ⟨A2, hA2⟩ : ∃ q, q = AL := ⟨_, rfl⟩
    obtain ⟨c2, hc2⟩ : ∃ q, q = cL := ⟨_, rfl⟩
    rw [← hA2, ← hc2] at VL ⊢
    clear hA2 hc2
    go_upto_region 9 with fail
    refine code_abs (fun X => Below w.heap.size w X ∧ Blk X g0 24 #[.int .i64 a, .int .i64 m] ∧ Blk X (g0 + 1) 24 #[.int .i64 b, .int .i64 n] ∧ Blk X gx 30 (setArr none64) ∧ Kd.R k24 24 X w.heap.size (fun _ => True) (.slice A2 T.length c2) T) ⟨below_step HB.out (by repeat (first | exact Below.refl _ _ | apply below_alloc | refine Below.setCell ?_ (Nat.le_refl _) _ | refine Below.setCell ?_ (by simp) _)), A0.out.keep (by repeat (first | exact Below.refl _ _ | apply below_alloc | refine Below.setCell ?_ (Nat.le_refl _) _ | refine Below.setCell ?_ (by simp) _)), A1.out.keep (by repeat (first | exact Below.refl _ _ | apply below_alloc | refine Below.setCell ?_ (Nat.le_refl _) _ | refine Below.setCell ?_ (by simp) _)), SX.out.keep (by repeat (first | exact Below.refl _ _ | apply below_alloc | refine Below.setCell ?_ (Nat.le_refl _) _ | refine Below.setCell ?_ (by simp) _)), Kd.R_below VL.out (by repeat (first | exact Below.refl _ _ | apply below_alloc | refine Below.setCell ?_ (Nat.le_refl _) _ | refine Below.setCell ?_ (by simp) _))⟩ ?_
    rintro w9 ⟨h_HB, h_A0, h_A1, h_SX, h_VL⟩
    replace HB := Aside0.mk h_HB
    replace A0 := Aside0.mk h_A0
    replace A1 := Aside0.mk h_A1
    replace SX := Aside0.mk h_SX
    replace VL := Aside0.mk h_VL
    clear h_HB h_A0 h_A1 h_SX h_VL
    have VT := VL
    clear VL
    clear A1
    have TW := Aside0.mk (split_spec (b := b) (n := n) Hwh.out).1
    have TS := Aside0.mk (split_spec (b := b) (n := n) Hwh.out).2.1
    have TL := Aside0.mk (split_len a m b n)
    have TE := Aside0.mk (split_set (b := b) (n := n) Hwh.out)
    rw [← HTe.out] at TW TS TL TE
    have htl : (T.length : Int) ≤ 3 := by have := TL.out; omega
    obtain ⟨sa, hsa⟩ : ∃ s, s = putS none64 [⟨a, m⟩] true := ⟨_, rfl⟩
    rw [← hsa] at TE
    replace hsa := Aside0.mk hsa
    have hm0 : 1 ≤ m := Hwh.out.2.1
    have hm1 : m ≤ 64 := by have := Hwh.out; omega
    go_wp2_with fail
    go_loopg [5, 10] T.length (fun kq u v wz => ∃ i : Nat, i + kq = T.length ∧ u = .int .i64 (sumN (T.take i)) ∧ v = .int .i64 (i : Int) ∧ Aside0 (Below w.heap.size w wz) ∧ Aside0 (Blk wz g0 24 #[.int .i64 a, .int .i64 m]) ∧ Aside0 (Blk wz gx 30 (setArr (putS none64 (T.take i) true))) ∧ Aside0 (Kd.R k24 24 wz w.heap.size (fun _ => True) (.slice A2 T.length c2) T))
    case atStart => exact ⟨0, by omega, rfl, rfl, HB, A0, SX, VT⟩
    case round =>
      clear HB A0 SX VT
      obtain ⟨i, hi, rfl, rfl, HB, A0, SX, VT⟩ := hrel
      have hls := Aside0.mk (putS_len none64 (T.take i) true (by simp))
      by_cases hlt : i < T.length
      · have hlt' : (i : Int) < (T.length : Int) := by omega
        obtain ⟨kk, rfl⟩ : ∃ z, gk = z + 1 := ⟨gk - 1, by omega⟩
        have hC0 := (C_of_R VT.out).1
        obtain ⟨ad, e1, x0, x1⟩ := at_T24 hC0 (i : Int) (by omega) (by omega)
        subst e1
        rw [Int.toNat_natCast] at x0 x1
        have hel := Aside0.mk (elem_C hC0 i hlt)
        have hput := Aside0.mk (putS_snoc none64 T true i hlt)
        have hone := Aside0.mk (sumN_step T i hlt)
        have hwx := TW.out T[i] (List.getElem_mem hlt)
        have hs0 : 0 ≤ sumN (T.take i) ∧ sumN (T.take i) ≤ 192 := by have h1 := TL.out; have h2 := List.length_take_le i T; have h3 := sum_few (T.take i) (fun x hx => TW.out x (List.mem_of_mem_take hx)) (by omega); omega
        rw [rd_get T i hlt] at x0 x1 hput
        have hle2 : T.length ≤ c2 := (Kd.R_reads' VT.out).2.1
        generalize T[i] = X at *
        obtain ⟨F, M⟩ := X
        simp only at x0 x1 hwx hone
        obtain ⟨ti, hti, _, htz, _⟩ := info_parts info24
        have hcut := cut_mid (P := Try.prog) 31 24 .i64 .i64 Try.underlying31 hti 2 htz (some ad) T.length c2 (i : Int) ((i : Int) + 1) (by omega) (by omega) (by omega) hle2
        have e1 : (if c2 = ((i : Int)).toNat then some ad else Option.map (fun x => x.add (((i : Int)).toNat * 2)) (some ad)) = some (ad.add (i * 2)) := by rw [if_neg (by omega), Int.toNat_natCast]; rfl
        have e2 : ((i : Int) + 1).toNat - ((i : Int)).toNat = 1 := by omega
        rw [e1, e2, Int.toNat_natCast] at hcut
        clear e1 e2 hti htz
        have Hv : Aside0 (span_Valid.f F M 64 = some true) := ⟨by rw [valid_eq F M 64 (by decide), decide_eq_true ⟨hwx, hwx.2.2⟩]⟩
        have hM : 1 ≤ M ∧ M ≤ 64 := by omega
        have Hwx := Aside0.mk hwx
        clear hwx hC0
        obtain ⟨S0, hS0⟩ : ∃ z, z = sumN (T.take i) := ⟨_, rfl⟩
        rw [← hS0] at hs0 hone ⊢
        replace hS0 := Aside0.mk hS0
        obtain ⟨sb, hsb⟩ : ∃ z, z = putS none64 (T.take i) true := ⟨_, rfl⟩
        rw [← hsb] at hls hput SX
        clear hsb
        go_wp2_with fail

        have X0 := Aside0.mk x0
        have X1 := Aside0.mk x1
        have CE := Aside0.mk hel.out
        clear x0 x1 hel
        refine (span_Valid.calls F M 64 true _ Hv.out).mono ?_
        rintro e w10 ⟨rfl, hB⟩
        replace HB := Aside0.mk (below_step HB.out hB)
        replace A0 := Aside0.mk (A0.out.keep hB)
        replace SX := Aside0.mk (SX.out.keep hB)
        replace VT := Aside0.mk (Kd.R_below VT.out hB)
        replace X0 := Aside0.mk (keepP hB X0.out)
        replace X1 := Aside0.mk (keepP hB X1.out)
        replace CE := Aside0.mk (Kd.C_below CE.out hB)
        clear hB
        have x1 := X1.out
        go_wp2_with fail
        clear x1
        have hwi : wrap64 ((i : Int) + 1) = (i : Int) + 1 := w_id (by omega) (by omega)
        have hci : ¬ c2 = i := by omega
        refine start_ (n := 8) (S := fun w' => Below w.heap.size w w' ∧ Blk w' g0 24 #[.int .i64 a, .int .i64 m] ∧ Blk w' gx 30 (setArr sb) ∧ Kd.R k24 24 w' w.heap.size (fun _ => True) (.slice (some ad) T.length c2) T ∧ Kd.C k24 w' (some (ad.add (i * 2))) 1 [⟨F, M⟩]) (ds := [7]) #[false, false, false, false, false, false, false, false] (by kernel_rfl) rfl rfl ⟨(below_drew1 HB.out), (A0.out.keep (below_drew1 (Below.refl _ _))), (SX.out.keep (below_drew1 (Below.refl _ _))), (Kd.R_below VT.out (below_drew1 (Below.refl _ _))), (Kd.C_below CE.out (below_drew1 (Below.refl _ _)))⟩ (fun hHeld => ?_)
        refine pure_ (i := 1) (N := some 55) (v := ?_) (a' := ?_) #[false, true, false, false, false, false, false, false] rfl rfl (by kernel_rfl) (fun _ _ _ h => h) (Or.inl ⟨by rfl, ?_⟩) ?_ ?_
        rotate_left
        · intro w'
          go_simp
          with_reducible rfl
        rotate_left
        · simp only [Act.put, List.setIfInBounds_toArray, List.set_cons_zero, List.set_cons_succ, i64_w, i32_w]
          rfl
        refine pure_ (i := 2) (N := some 56) (v := ?_) (a' := ?_) #[false, true, true, false, false, false, false, false] rfl rfl (by kernel_rfl) (fun _ _ _ h => h) (Or.inl ⟨by rfl, ?_⟩) ?_ ?_
        rotate_left
        · intro w'
          go_simp
          with_reducible rfl
        rotate_left
        · simp only [Act.put, List.setIfInBounds_toArray, List.set_cons_zero, List.set_cons_succ, i64_w, i32_w]
          rfl
        refine pure_ (i := 3) (N := some 57) (v := ?_) (a' := ?_) #[false, true, true, true, false, false, false, false] rfl rfl (by kernel_rfl) (fun _ _ _ h => h) (Or.inl ⟨by rfl, ?_⟩) ?_ ?_
        rotate_left
        · intro w'
          go_simp
          with_reducible rfl
        rotate_left
        · simp only [Act.put, List.setIfInBounds_toArray, List.set_cons_zero, List.set_cons_succ, i64_w, i32_w]
          rfl
        refine pure_ (i := 4) (N := some 58) (v := ?_) (a' := ?_) #[false, true, true, true, true, false, false, false] rfl rfl (by kernel_rfl) (fun _ _ _ h => h) (Or.inl ⟨by rfl, ?_⟩) ?_ ?_
        rotate_left
        · intro w'
          go_simp
          with_reducible rfl
        rotate_left
        · simp only [Act.put, List.setIfInBounds_toArray, List.set_cons_zero, List.set_cons_succ, i64_w, i32_w]
          rfl
        refine pure_ (i := 5) (N := some 59) (v := ?_) (a' := ?_) #[false, true, true, true, true, true, false, false] rfl rfl (by kernel_rfl) (fun _ _ _ h => h) (Or.inl ⟨by rfl, ?_⟩) ?_ ?_
        rotate_left
        · intro w'
          go_simp
          with_reducible rfl
        rotate_left
        · simp only [Act.put, List.setIfInBounds_toArray, List.set_cons_zero, List.set_cons_succ, i64_w, i32_w]
          rfl
        refine take_ (i := 0) (N := some 54) (v := ?_) (a' := ?_) #[true, true, true, true, true, true, false, false] rfl rfl (by kernel_rfl) (fun _ _ _ h => h) (Or.inl ⟨by rfl, ?_⟩) hHeld ?_ ?_
        rotate_left
        · rintro w' ⟨s0, s1, s2, s3, s4⟩
          refine row_yields 30 (.tmp 6) ?_ gx ?_ 30 (setArr sb) (0, 0) _ s2.hd Try.underlying30 rfl (by rw [setArr_size, hls.out]; exact info30)
          · rfl
          · rfl
        rotate_left
        · simp only [Act.put, List.setIfInBounds_toArray, List.set_cons_zero, List.set_cons_succ, i64_w, i32_w]
          rfl
        refine one_ (i := 6) (N := some 60) #[true, true, true, true, true, true, true, false] rfl rfl (by kernel_rfl) (by decide) (fun K hK => ?_)
        refine goes_ Try.func19 (by kernel_rfl) rfl #[.agg (setArr sb), .slice (some (ad.add (i * 2))) 1 (c2 - i), .bool true] (by rfl) rfl rfl (by simp only [List.map_toArray, List.map_cons, List.map_nil]; rfl) ?_
        with_reducible refine (put_one sb hls (ad.add (i * 2)) (c2 - i) F M _ hHeld.2.2.2.2 (by omega)).mono ?_
        rintro e w50 ⟨rfl, hb⟩
        refine ⟨_, rfl, ?_⟩
        refine hK.out _ _ ⟨(below_step hHeld.1 hb), (hHeld.2.1.keep hb), (hHeld.2.2.1.keep hb), (Kd.R_below hHeld.2.2.2.1 hb), (Kd.C_below hHeld.2.2.2.2 hb)⟩ (fun hHeld => ?_)
        clear hK K
        refine norm_ (a' := ?_) ?_ ?_
        rotate_left
        · show Act.put _ (some 60) _ = _
          simp only [Act.put, List.setIfInBounds_toArray, List.set_cons_zero, List.set_cons_succ, i64_w, i32_w]
          rfl
        refine last_ (i := 7) (N := none) #[true, true, true, true, true, true, true, true] rfl rfl (by kernel_rfl) (by decide) (fun K hK => ?_)
        rw [if_pos (by rfl)]
        refine wp_store_row 30 (.tmp 6) (.tmp 60) (by rfl) gx (setArr (putS sb [⟨F, M⟩] true)) (by rfl) (by rfl) 30 (setArr sb) hHeld.2.2.1.hd (by rw [setArr_size, putS_len _ _ _ hls.out]; exact info30) (by rw [setArr_size, setArr_size, putS_len _ _ _ hls.out, hls.out]) (setArr_one _) ?_
        refine hK.out _ _ ?_
        clear hK K
        refine done_ (by kernel_rfl) ?_
        replace HB := Aside0.mk hHeld.1
        replace A0 := Aside0.mk hHeld.2.1
        replace SX := Aside0.mk hHeld.2.2.1
        replace VT := Aside0.mk hHeld.2.2.2.1
        replace CE := Aside0.mk hHeld.2.2.2.2
        clear hHeld
        clear X0
        clear X1
        clear hwi hci
        have HB9 : Aside0 (Below w.heap.size w (w50.setRow gx (setArr (putS sb [⟨F, M⟩] true)))) := ⟨below_setRow HB.out GEX.out.1 _⟩
        have A09 := Aside0.mk (A0.out.rowFar (show g0 ≠ gx by have := GEX.out.2; omega) (setArr (putS sb [⟨F, M⟩] true)))
        have SX9 := Aside0.mk (SX.out.row (setArr (putS sb [⟨F, M⟩] true)))
        have VT9 := Aside0.mk (V_rowFar VT.out SX.out (by decide) (setArr (putS sb [⟨F, M⟩] true)))
        clear HB A0 SX VT CE
        replace SX9 : Aside0 (Blk (w50.setRow gx (setArr (putS sb [⟨F, M⟩] true))) gx 30 (setArr (putS none64 (T.take (i + 1)) true))) := ⟨by rw [hput.out]; exact SX9.out⟩
        generalize w50.setRow gx (setArr (putS sb [⟨F, M⟩] true)) = w51 at *
        go_wp2_with fail
        go_roundg kk
        case measure => omega
        case rel => exact ⟨i + 1, by omega, by rw [hone.out], by go_num, HB9, A09, SX9, VT9⟩
      · have hlt' : ¬ (i : Int) < (T.length : Int) := by omega
        obtain rfl : i = T.length := by omega
        rw [List.take_length] at SX ⊢
        rw [TS.out]
        rw [TE.out] at SX
        have hE : ∀ W : World, (Op.equalIn 10000 30 (.agg (setArr sa)) (.agg (setArr sa))).run Try.prog W = .ok true W := fun W => by
          have h := eqSet 9998 sa sa (by rw [hsa.out]; exact putS_len _ _ _ (by simp)) (by rw [hsa.out]; exact putS_len _ _ _ (by simp)) W
          rw [eqB, decide_eq_true rfl] at h
          exact h
        have hsl : Aside0 (sa.length = 64) := ⟨by rw [hsa.out]; exact putS_len _ _ _ (by simp)⟩
        have Q0 := Aside0.mk (A0.out.cell (i := 0) (v := .int .i64 a) rfl)
        have Q1 := Aside0.mk (A0.out.cell (i := 1) (v := .int .i64 m) rfl)
        go_wp2_with fail
        refine start_ (n := 11) (S := fun w' => Below w.heap.size w w' ∧ Blk w' gx 30 (setArr sa) ∧ w'.cell? ⟨g0, 0, none⟩ = some (.int .i64 a) ∧ w'.cell? ⟨g0, 1, none⟩ = some (.int .i64 m)) (ds := []) #[false, false, false, false, false, false, false, false, false, false, false] (by kernel_rfl) rfl rfl ⟨(below_drew1 HB.out), (SX.out.keep (below_drew1 (Below.refl _ _))), (keep (below_drew1 (Below.refl _ _)) Q0.out), (keep (below_drew1 (Below.refl _ _)) Q1.out)⟩ (fun hHeld => ?_)
        refine pure_ (i := 0) (N := some 61) (v := ?_) (a' := ?_) #[true, false, false, false, false, false, false, false, false, false, false] rfl rfl (by kernel_rfl) (fun _ _ _ h => h) (Or.inl ⟨by rfl, ?_⟩) ?_ ?_
        rotate_left
        · intro w'
          go_simp
          with_reducible rfl
        rotate_left
        · simp only [Act.put, List.setIfInBounds_toArray, List.set_cons_zero, List.set_cons_succ, i64_w, i32_w]
          rfl
        refine pure_ (i := 1) (N := some 62) (v := ?_) (a' := ?_) #[true, true, false, false, false, false, false, false, false, false, false] rfl rfl (by kernel_rfl) (fun _ _ _ h => h) (Or.inl ⟨by rfl, ?_⟩) ?_ ?_
        rotate_left
        · intro w'
          go_simp
          with_reducible rfl
        rotate_left
        · simp only [Act.put, List.setIfInBounds_toArray, List.set_cons_zero, List.set_cons_succ, i64_w, i32_w]
          rfl
        refine take_ (i := 2) (N := some 63) (v := ?_) (a' := ?_) #[true, true, true, false, false, false, false, false, false, false, false] rfl rfl (by kernel_rfl) (fun _ _ _ h => h) (Or.inl ⟨by rfl, ?_⟩) hHeld ?_ ?_
        rotate_left
        · rintro w' ⟨s0, s1, s2, s3⟩
          go_simp
          with_reducible rfl
        rotate_left
        · simp only [Act.put, List.setIfInBounds_toArray, List.set_cons_zero, List.set_cons_succ, i64_w, i32_w]
          rfl
        refine pure_ (i := 3) (N := some 64) (v := ?_) (a' := ?_) #[true, true, true, true, false, false, false, false, false, false, false] rfl rfl (by kernel_rfl) (fun _ _ _ h => h) (Or.inl ⟨by rfl, ?_⟩) ?_ ?_
        rotate_left
        · intro w'
          go_simp
          with_reducible rfl
        rotate_left
        · simp only [Act.put, List.setIfInBounds_toArray, List.set_cons_zero, List.set_cons_succ, i64_w, i32_w]
          rfl
        refine pure_ (i := 4) (N := some 65) (v := ?_) (a' := ?_) #[true, true, true, true, true, false, false, false, false, false, false] rfl rfl (by kernel_rfl) (fun _ _ _ h => h) (Or.inl ⟨by rfl, ?_⟩) ?_ ?_
        rotate_left
        · intro w'
          go_simp
          with_reducible rfl
        rotate_left
        · simp only [Act.put, List.setIfInBounds_toArray, List.set_cons_zero, List.set_cons_succ, i64_w, i32_w]
          rfl
        refine take_ (i := 5) (N := some 66) (v := ?_) (a' := ?_) #[true, true, true, true, true, true, false, false, false, false, false] rfl rfl (by kernel_rfl) (fun _ _ _ h => h) (Or.inl ⟨by rfl, ?_⟩) hHeld ?_ ?_
        rotate_left
        · rintro w' ⟨s0, s1, s2, s3⟩
          refine row_yields 30 (.tmp 6) ?_ gx ?_ 30 (setArr sa) (0, 0) _ s1.hd Try.underlying30 rfl (by rw [setArr_size, hsl.out]; exact info30)
          · rfl
          · rfl
        rotate_left
        · simp only [Act.put, List.setIfInBounds_toArray, List.set_cons_zero, List.set_cons_succ, i64_w, i32_w]
          rfl
        refine take_ (i := 6) (N := some 67) (v := ?_) (a' := ?_) #[true, true, true, true, true, true, true, false, false, false, false] rfl rfl (by kernel_rfl) (fun _ _ _ h => h) (Or.inl ⟨by rfl, ?_⟩) hHeld ?_ ?_
        rotate_left
        · rintro w' ⟨s0, s1, s2, s3⟩
          go_simp
          with_reducible rfl
        rotate_left
        · simp only [Act.put, List.setIfInBounds_toArray, List.set_cons_zero, List.set_cons_succ, i64_w, i32_w]
          rfl
        refine one_ (i := 7) (N := some 68) #[true, true, true, true, true, true, true, true, false, false, false] rfl rfl (by kernel_rfl) (by decide) (fun K hK => ?_)
        refine goes_ Try.func20 (by kernel_rfl) rfl #[.agg #[.int .i64 a, .int .i64 m]] (by rfl) rfl rfl (by simp only [List.map_toArray, List.map_cons, List.map_nil]; rfl) ?_
        with_reducible refine (set1 a m sa hsa.out _).mono ?_
        rintro e w60 ⟨rfl, hb⟩
        refine ⟨_, rfl, ?_⟩
        refine hK.out _ _ ⟨(below_step hHeld.1 hb), (hHeld.2.1.keep hb), (keep hb hHeld.2.2.1), (keep hb hHeld.2.2.2)⟩ (fun hHeld => ?_)
        clear hK K
        refine norm_ (a' := ?_) ?_ ?_
        rotate_left
        · show Act.put _ (some 68) _ = _
          simp only [Act.put, List.setIfInBounds_toArray, List.set_cons_zero, List.set_cons_succ, i64_w, i32_w]
          rfl
        refine pure_ (i := 8) (N := some 69) (v := ?_) (a' := ?_) #[true, true, true, true, true, true, true, true, true, false, false] rfl rfl (by kernel_rfl) (fun _ _ _ h => h) (Or.inl ⟨by rfl, ?_⟩) ?_ ?_
        rotate_left
        · intro w'
          go_simp
          with_reducible rfl
        rotate_left
        · simp only [Act.put, List.setIfInBounds_toArray, List.set_cons_zero, List.set_cons_succ, i64_w, i32_w]
          rfl
        refine pure_ (i := 9) (N := some 70) (v := ?_) (a' := ?_) #[true, true, true, true, true, true, true, true, true, true, false] rfl rfl (by kernel_rfl) (fun _ _ _ h => h) (Or.inl ⟨by rfl, ?_⟩) ?_ ?_
        rotate_left
        · intro w'
          go_simp
          with_reducible rfl
        rotate_left
        · simp only [Act.put, List.setIfInBounds_toArray, List.set_cons_zero, List.set_cons_succ, i64_w, i32_w]
          rfl
        refine pure_ (i := 10) (N := some 4) (v := ?_) (a' := ?_) #[true, true, true, true, true, true, true, true, true, true, true] rfl rfl (by kernel_rfl) (fun _ _ _ h => h) (Or.inl ⟨by rfl, ?_⟩) ?_ ?_
        rotate_left
        · intro w'
          go_simp
          with_reducible rfl
        rotate_left
        · simp only [Act.put, List.setIfInBounds_toArray, List.set_cons_zero, List.set_cons_succ, i64_w, i32_w]
          rfl
        refine done_ (by kernel_rfl) ?_
        replace HB := Aside0.mk hHeld.1
        replace SX := Aside0.mk hHeld.2.1
        replace Q0 := Aside0.mk hHeld.2.2.1
        replace Q1 := Aside0.mk hHeld.2.2.2
        clear hHeld
        go_wp2_with fail
        go_ret
        exact ⟨rfl, HB.out⟩
theorem walk (a m b n : Int) (w : World) (_ : (Lit.int .i64 a).wf = true) (_ : (Lit.int .i64 m).wf = true) (_ : (Lit.int .i64 b).wf = true) (_ : (Lit.int .i64 n).wf = true) :
    Calls Try.prog 4 #[.agg #[.int .i64 a, .int .i64 m], .agg #[.int .i64 b, .int .i64 n]] w fun e w' => e = .returned (.bool true) ∧ Below w.heap.size w w' := by
  by_cases h : wh a m
  · exact main a m b n w h
  · exact early a m b n w h
end Go.Proofs.Ytjbimnicnehnaaa.WSpanSplits
end
