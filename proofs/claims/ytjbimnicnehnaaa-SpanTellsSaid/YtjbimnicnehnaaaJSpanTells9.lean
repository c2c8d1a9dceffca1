/- Parts of the proof for SpanTells: WaSpanTells. -/
import Derived.Deep.WholeRow
import Derived.Deep.DeepCutAuto
import Derived.Deep.CutBlock
import Derived.Test.YtjbimnicnehnaaaJSpanTells8
import Derived.Test.YtjbimnicnehnaaaJSpanTells4
import Derived.Test.YtjbimnicnehnaaaJSpanTells7
import Derived.Test.YtjbimnicnehnaaaJSpanTells6
import Derived.Test.YtjbimnicnehnaaaJSpanTells1
import Derived.Test.YtjbimnicnehnaaaJSpanTells2
import Derived.Test.YtjbimnicnehnaaaJSpanTells3
section
namespace Go.Proofs.Ytjbimnicnehnaaa.WSpanTells
open Go.RowKit Go.Proofs.YtjbimnicnehnaaaW.PrintWords Go.Proofs.YtjbimnicnehnaaaW.PrintLast Go.Proofs.YtjbimnicnehnaaaW.PrintMore Go.Proofs.Ytjbimnicnehnaaa.A Go.Proofs.Ytjbimnicnehnaaa.Hand
set_option linter.unusedVariables false
set_option linter.unusedSimpArgs false
attribute [local go_sem] max2_int min2_int max_two min_two max_three min_three max_four min_four
attribute [local go_sem high] eqA24
abbrev SP := S24
theorem valid_any (a n b : Int) : span_Valid.f a n b = some (decide (wh a n ∧ a + n ≤ b)) := by
  unfold span_Valid.f
  rw [whole_eq, Option.bind_some]
  by_cases h : wh a n
  · rw [if_pos (decide_eq_true h), w_id (by unfold wh at h; omega) (by unfold wh at h; omega)]
    congr 1
    rw [decide_eq_decide]
    exact ⟨fun x => ⟨h, x⟩, fun x => x.2⟩
  · rw [if_neg (by rw [decide_eq_true_eq]; exact h), decide_eq_false (fun x => h x.1)]
theorem C_blk1 {w : World} {g : Nat} {p q : Int} (h : Blk w g 24 #[.int .i64 p, .int .i64 q]) : Kd.C k24 w (some ⟨g, 0, none⟩) 1 [⟨p, q⟩] := by
  refine ⟨rfl, by simp, fun _ => ⟨_, rfl, fun j x hj => ?_⟩⟩
  match j, hj with
  | 0, hj =>
    injection hj with hj
    subst hj
    refine ⟨[.int .i64 p, .int .i64 q], rfl, k24_mk w _, fun i u hu => ?_⟩
    match i, hu with
    | 0, hu => injection hu with hu; subst hu; exact h.cell (i := 0) rfl
    | 1, hu => injection hu with hu; subst hu; exact h.cell (i := 1) rfl
    | i + 2, hu => simp at hu
  | j + 1, hj => simp at hj
theorem exit_norm {Q : Exit → Act → World → Prop} {a a' : Act} {w : World} (ha : a = a') (h : Q .normal a' w) : Q .normal a w := by
  subst ha
  exact h
theorem same_C (A : Option Addr) (c : Nat) (B : Option Addr) (d : Nat) (T : List SP) (hc : T.length ≤ c) (hd : T.length ≤ d) (hT : T.length ≤ 1000000) (w : World) (hA : Kd.C k24 w A T.length T) (hB : Kd.C k24 w B T.length T) :
    Calls Try.prog 26 #[.slice A T.length c, .slice B T.length d] w fun e w' => e = .returned (.bool true) ∧ Below w.heap.size w w' := by
  refine (emulsionbook_SameSpans.calls (T.length + 1) A c T B d T true w hA hc hB hd (sameSpans_f T (by omega) _ (by omega))).mono ?_
  rintro e w' ⟨rfl, hd⟩
  exact ⟨rfl, drawnB hd⟩
theorem same_C1 (g : Nat) (B : Option Addr) (d : Nat) (x : SP) (hd : ([x] : List SP).length ≤ d) (w : World) (hA : Kd.C k24 w (some ⟨g, 0, none⟩) 1 [x]) (hB : Kd.C k24 w B ([x] : List SP).length [x]) :
    Calls Try.prog 26 #[.slice (some ⟨g, 0, none⟩) 1 1, .slice B ([x] : List SP).length d] w fun e w' => e = .returned (.bool true) ∧ Below w.heap.size w w' := same_C _ 1 B d [x] (by simp) hd (by simp) w hA hB
theorem Blk.newN (w : World) (t : TypeId) (cs : Array Value) (n : Nat) (hn : w.heap.size = n) : Blk (w.alloc (.cells cs t)) n t cs := by
  subst hn
  exact Blk.new w t cs
/-- What the document says of two spans. -/
structure Told (a m b n : Int) (va vb vm vt : Bool) (p q j1 j2 en : Int) (cb : Nat) : Prop where
  wa : emulsionref1_Whole.f a m = some va
  wb : emulsionref1_Whole.f b n = some vb
  meet : span_Meet.f 1 a m b n = some (p, q, vm)
  touch : span_Touch.f a m b n = some vt
  join : span_Join.f a m b n = some (j1, j2, vt)
  end_ : span_End.f a m = some en
  cnt : cntS (andS (spanS a m) (spanS b n)) 64 = cb
  sp : vm = true → spansOf (andS (spanS a m) (spanS b n)) = [⟨p, q⟩]
  no : vm = false → p = 0 ∧ q = 0 ∧ cb = 0
  yes : vm = true → va = true ∧ vt = true ∧ 1 ≤ cb
  nt : vt = false → j1 = 0 ∧ j2 = 0
  tt : vt = true → va = true ∧ vb = true ∧ j1 = min a b ∧ j2 = max (a + m) (b + n) - min a b
  a0 : va = false → en = 0
  a1 : va = true → en = a + m ∧ 0 ≤ a ∧ a ≤ 64 ∧ 1 ≤ m ∧ m ≤ 64
  b1 : vb = true → 0 ≤ b ∧ b ≤ 64 ∧ 1 ≤ n ∧ n ≤ 64
  ts : va = true → vb = true → (vt = decide (a ≤ b + n ∧ b ≤ a + m))
  vtb : vt = true → va = true ∧ vb = true
theorem told (a m b n : Int) : ∃ va vb vm vt p q j1 j2 en cb, Told a m b n va vb vm vt p q j1 j2 en cb := by
  refine ⟨decide (wh a m), decide (wh b n), (meetV a m b n).2.2, decide (touches a m b n), (meetV a m b n).1, (meetV a m b n).2.1, (joinV a m b n).1, (joinV a m b n).2.1, endV a m, _, rwhole_eq a m, rwhole_eq b n, meet_eq a m b n 0, touch_eq a m b n, ?_, end_eq a m, rfl, ?_, ?_, ?_, ?_, ?_, ?_, ?_, ?_, ?_, ?_⟩
  · rw [join_eq]
    unfold joinV
    by_cases h : touches a m b n
    · rw [if_pos h, decide_eq_true h]
    · rw [if_neg h, decide_eq_false h]
  · intro h
    unfold meetV at h ⊢
    by_cases hl : laps a m b n
    · rw [if_pos hl]; exact both_laps hl
    · rw [if_neg hl] at h; cases h
  · intro h
    unfold meetV at h ⊢
    by_cases hl : laps a m b n
    · rw [if_pos hl] at h; cases h
    · rw [if_neg hl, both_no hl]; exact ⟨rfl, rfl, none_cnt⟩
  · intro h
    unfold meetV at h
    by_cases hl : laps a m b n
    · refine ⟨decide_eq_true hl.1, decide_eq_true ⟨hl.1, hl.2.1, Int.le_of_lt hl.2.2⟩, ?_⟩
      have h1 := spans_sum (andS (spanS a m) (spanS b n))
      rw [both_laps hl] at h1
      have h2 := hl.2.2
      simp [sumN] at h1
      omega
    · rw [if_neg hl] at h; cases h
  · intro h
    have h' := of_decide_eq_false h
    unfold joinV
    rw [if_neg h']; exact ⟨rfl, rfl⟩
  · intro h
    have h' := of_decide_eq_true h
    unfold joinV
    rw [if_pos h']; exact ⟨decide_eq_true h'.1, decide_eq_true h'.2.1, rfl, rfl⟩
  · intro h
    unfold endV
    rw [if_neg (of_decide_eq_false h)]
  · intro h
    have h' := of_decide_eq_true h
    unfold endV
    rw [if_pos h']
    obtain ⟨h1, h2, h3⟩ := h'
    exact ⟨rfl, h1, by omega, h2, by omega⟩
  · intro h
    obtain ⟨h1, h2, h3⟩ := of_decide_eq_true h
    exact ⟨h1, by omega, h2, by omega⟩
  · intro h1 h2
    rw [decide_eq_decide]
    have h1' := of_decide_eq_true h1
    have h2' := of_decide_eq_true h2
    constructor
    · rintro ⟨_, _, h⟩
      obtain ⟨q1, q2, q3⟩ := h1'
      obtain ⟨q4, q5, q6⟩ := h2'
      omega
    · intro h
      refine ⟨h1', h2', ?_⟩
      obtain ⟨q1, q2, q3⟩ := h1'
      obtain ⟨q4, q5, q6⟩ := h2'
      omega
  · intro h
    have h' := of_decide_eq_true h
    exact ⟨decide_eq_true h'.1, decide_eq_true h'.2.1⟩
abbrev Ends (w : World) : Ending → World → Prop := fun e w' => e = .returned (.bool true) ∧ Below w.heap.size w w'
def qq.T21 : Bool × List (List Nat × List Nat) := (true, [([], []), ([], []), ([0, 1], [0, 1]), ([], []), ([3, 2], [3]), ([4], [4]), ([4], [4]), ([5, 6, 4], [4, 5, 6]), ([4, 7], [4, 7]), ([2, 8], [2, 8]), ([9, 4], [9]), ([10], [10]), ([11, 10, 10], [10, 11]), ([10], [10]), ([12, 13, 10], [10, 12, 13]), ([10, 14], [10, 14]), ([15, 12], [15]), ([16], [16]), ([16], [16]), ([18, 16, 16], [16, 18]), ([19, 16], [16, 19]), ([17, 20, 16], [16, 17, 20]), ([16, 21], [16, 21]), ([22, 19], [22]), ([23], [23]), ([24, 23, 23], [23, 24]), ([25], [25]), ([26, 25], [25, 26]), ([25], [25]), ([28, 25, 25], [25, 28]), ([27, 29, 29, 25], [25, 27, 29]), ([30, 25], [25, 30]), ([25, 31, 23], [23, 25, 31]), ([23, 32], [23, 32]), ([33, 30], [33]), ([34], [34]), ([35, 34], [34, 35]), ([36, 34, 34], [34, 36]), ([37], [37]), ([37], [37]), ([38, 39, 37], [37, 38, 39]), ([37, 40, 34], [34, 37, 40]), ([34, 41], [34, 41]), ([42, 37], [42]), ([43], [43]), ([43], [43]), ([44, 45, 43, 43], [43, 44, 45]), ([43], [43]), ([46, 47, 43], [43, 46, 47]), ([43, 48], [43, 48]), ([49, 46], [49]), ([50], [50]), ([50], [50]), ([51, 52, 50], [50, 51, 52]), ([50, 53], [50, 53]), ([54, 50], [54]), ([55], [55]), ([56, 55], [55, 56]), ([57, 55, 55], [55, 57]), ([58], [58]), ([58], [58]), ([59, 60, 58], [58, 59, 60]), ([58, 61, 55], [55, 58, 61]), ([55, 62], [55, 62])])
def qq.B21 : List Nat := [0, 0, 3, 0, 15, 31, 31, 127, 255, 511, 1023, 2047, 4095, 2047, 16383, 32767, 65535, 131071, 131071, 393215, 917503, 2097151, 4194303, 8388607, 16777215, 33554431, 67108863, 134217727, 67108863, 335544319, 1073741823, 2147483647, 4294967295, 8589934591, 17179869183, 34359738367, 68719476735, 137438953471, 274877906943, 274877906943, 1099511627775, 2199023255551, 4398046511103, 8796093022207, 17592186044415, 17592186044415, 70368744177663, 17592186044415, 281474976710655, 562949953421311, 1125899906842623, 2251799813685247, 2251799813685247, 9007199254740991, 18014398509481983, 36028797018963967, 72057594037927935, 144115188075855871, 288230376151711743, 576460752303423487, 576460752303423487, 2305843009213693951, 4611686018427387903, 9223372036854775807]
theorem qq.bits21 : waitsOk qq.T21.2 qq.B21 = true := by kernel_rfl
abbrev qq.m0 : Array Bool := #[z, o, z, z, z, z, z, z, z, z, z, z, z, z, z, z, z, z, z, z, z, z, z, z, z, z, z, z, z, z, z, z, z, z, z, z, z, z, z, z, z, z, z, z, z, z, z, z, z, z, z, z, z, z, z, z, z, z, z, z, z, z, z, z]
abbrev qq.m1 : Array Bool := #[z, o, z, o, z, z, z, z, z, z, z, z, z, z, z, z, z, z, z, z, z, z, z, z, z, z, z, z, z, z, z, z, z, z, z, z, z, z, z, z, z, z, z, z, z, z, z, z, z, z, z, z, z, z, z, z, z, z, z, z, z, z, z, z]
abbrev qq.m2 : Array Bool := #[o, o, z, o, z, z, z, z, z, z, z, z, z, z, z, z, z, z, z, z, z, z, z, z, z, z, z, z, z, z, z, z, z, z, z, z, z, z, z, z, z, z, z, z, z, z, z, z, z, z, z, z, z, z, z, z, z, z, z, z, z, z, z, z]
abbrev qq.m3 : Array Bool := #[o, o, o, o, z, z, z, z, z, z, z, z, z, z, z, z, z, z, z, z, z, z, z, z, z, z, z, z, z, z, z, z, z, z, z, z, z, z, z, z, z, z, z, z, z, z, z, z, z, z, z, z, z, z, z, z, z, z, z, z, z, z, z, z]
abbrev qq.m4 : Array Bool := #[o, o, o, o, o, z, z, z, z, z, z, z, z, z, z, z, z, z, z, z, z, z, z, z, z, z, z, z, z, z, z, z, z, z, z, z, z, z, z, z, z, z, z, z, z, z, z, z, z, z, z, z, z, z, z, z, z, z, z, z, z, z, z, z]
abbrev qq.m5 : Array Bool := #[o, o, o, o, o, o, z, z, z, z, z, z, z, z, z, z, z, z, z, z, z, z, z, z, z, z, z, z, z, z, z, z, z, z, z, z, z, z, z, z, z, z, z, z, z, z, z, z, z, z, z, z, z, z, z, z, z, z, z, z, z, z, z, z]
abbrev qq.m6 : Array Bool := #[o, o, o, o, o, o, o, z, z, z, z, z, z, z, z, z, z, z, z, z, z, z, z, z, z, z, z, z, z, z, z, z, z, z, z, z, z, z, z, z, z, z, z, z, z, z, z, z, z, z, z, z, z, z, z, z, z, z, z, z, z, z, z, z]
abbrev qq.m7 : Array Bool := #[o, o, o, o, o, o, o, o, z, z, z, z, z, z, z, z, z, z, z, z, z, z, z, z, z, z, z, z, z, z, z, z, z, z, z, z, z, z, z, z, z, z, z, z, z, z, z, z, z, z, z, z, z, z, z, z, z, z, z, z, z, z, z, z]
abbrev qq.m8 : Array Bool := #[o, o, o, o, o, o, o, o, o, z, z, z, z, z, z, z, z, z, z, z, z, z, z, z, z, z, z, z, z, z, z, z, z, z, z, z, z, z, z, z, z, z, z, z, z, z, z, z, z, z, z, z, z, z, z, z, z, z, z, z, z, z, z, z]
abbrev qq.m9 : Array Bool := #[o, o, o, o, o, o, o, o, o, o, z, z, z, z, z, z, z, z, z, z, z, z, z, z, z, z, z, z, z, z, z, z, z, z, z, z, z, z, z, z, z, z, z, z, z, z, z, z, z, z, z, z, z, z, z, z, z, z, z, z, z, z, z, z]
abbrev qq.m10 : Array Bool := #[o, o, o, o, o, o, o, o, o, o, o, z, z, z, z, z, z, z, z, z, z, z, z, z, z, z, z, z, z, z, z, z, z, z, z, z, z, z, z, z, z, z, z, z, z, z, z, z, z, z, z, z, z, z, z, z, z, z, z, z, z, z, z, z]
abbrev qq.m11 : Array Bool := #[o, o, o, o, o, o, o, o, o, o, o, z, z, o, z, z, z, z, z, z, z, z, z, z, z, z, z, z, z, z, z, z, z, z, z, z, z, z, z, z, z, z, z, z, z, z, z, z, z, z, z, z, z, z, z, z, z, z, z, z, z, z, z, z]
abbrev qq.m12 : Array Bool := #[o, o, o, o, o, o, o, o, o, o, o, o, z, o, z, z, z, z, z, z, z, z, z, z, z, z, z, z, z, z, z, z, z, z, z, z, z, z, z, z, z, z, z, z, z, z, z, z, z, z, z, z, z, z, z, z, z, z, z, z, z, z, z, z]
abbrev qq.m13 : Array Bool := #[o, o, o, o, o, o, o, o, o, o, o, o, o, o, z, z, z, z, z, z, z, z, z, z, z, z, z, z, z, z, z, z, z, z, z, z, z, z, z, z, z, z, z, z, z, z, z, z, z, z, z, z, z, z, z, z, z, z, z, z, z, z, z, z]
abbrev qq.m14 : Array Bool := #[o, o, o, o, o, o, o, o, o, o, o, o, o, o, o, z, z, z, z, z, z, z, z, z, z, z, z, z, z, z, z, z, z, z, z, z, z, z, z, z, z, z, z, z, z, z, z, z, z, z, z, z, z, z, z, z, z, z, z, z, z, z, z, z]
abbrev qq.m15 : Array Bool := #[o, o, o, o, o, o, o, o, o, o, o, o, o, o, o, o, z, z, z, z, z, z, z, z, z, z, z, z, z, z, z, z, z, z, z, z, z, z, z, z, z, z, z, z, z, z, z, z, z, z, z, z, z, z, z, z, z, z, z, z, z, z, z, z]
abbrev qq.m16 : Array Bool := #[o, o, o, o, o, o, o, o, o, o, o, o, o, o, o, o, o, z, z, z, z, z, z, z, z, z, z, z, z, z, z, z, z, z, z, z, z, z, z, z, z, z, z, z, z, z, z, z, z, z, z, z, z, z, z, z, z, z, z, z, z, z, z, z]
abbrev qq.m17 : Array Bool := #[o, o, o, o, o, o, o, o, o, o, o, o, o, o, o, o, o, o, z, z, z, z, z, z, z, z, z, z, z, z, z, z, z, z, z, z, z, z, z, z, z, z, z, z, z, z, z, z, z, z, z, z, z, z, z, z, z, z, z, z, z, z, z, z]
abbrev qq.m18 : Array Bool := #[o, o, o, o, o, o, o, o, o, o, o, o, o, o, o, o, o, o, o, z, z, z, z, z, z, z, z, z, z, z, z, z, z, z, z, z, z, z, z, z, z, z, z, z, z, z, z, z, z, z, z, z, z, z, z, z, z, z, z, z, z, z, z, z]
abbrev qq.m19 : Array Bool := #[o, o, o, o, o, o, o, o, o, o, o, o, o, o, o, o, o, o, o, o, z, z, z, z, z, z, z, z, z, z, z, z, z, z, z, z, z, z, z, z, z, z, z, z, z, z, z, z, z, z, z, z, z, z, z, z, z, z, z, z, z, z, z, z]
abbrev qq.m20 : Array Bool := #[o, o, o, o, o, o, o, o, o, o, o, o, o, o, o, o, o, o, o, o, o, z, z, z, z, z, z, z, z, z, z, z, z, z, z, z, z, z, z, z, z, z, z, z, z, z, z, z, z, z, z, z, z, z, z, z, z, z, z, z, z, z, z, z]
abbrev qq.m21 : Array Bool := #[o, o, o, o, o, o, o, o, o, o, o, o, o, o, o, o, o, o, o, o, o, o, z, z, z, z, z, z, z, z, z, z, z, z, z, z, z, z, z, z, z, z, z, z, z, z, z, z, z, z, z, z, z, z, z, z, z, z, z, z, z, z, z, z]
abbrev qq.m22 : Array Bool := #[o, o, o, o, o, o, o, o, o, o, o, o, o, o, o, o, o, o, o, o, o, o, o, z, z, z, z, z, z, z, z, z, z, z, z, z, z, z, z, z, z, z, z, z, z, z, z, z, z, z, z, z, z, z, z, z, z, z, z, z, z, z, z, z]
abbrev qq.m23 : Array Bool := #[o, o, o, o, o, o, o, o, o, o, o, o, o, o, o, o, o, o, o, o, o, o, o, o, z, z, z, z, z, z, z, z, z, z, z, z, z, z, z, z, z, z, z, z, z, z, z, z, z, z, z, z, z, z, z, z, z, z, z, z, z, z, z, z]
abbrev qq.m24 : Array Bool := #[o, o, o, o, o, o, o, o, o, o, o, o, o, o, o, o, o, o, o, o, o, o, o, o, o, z, z, z, z, z, z, z, z, z, z, z, z, z, z, z, z, z, z, z, z, z, z, z, z, z, z, z, z, z, z, z, z, z, z, z, z, z, z, z]
abbrev qq.m25 : Array Bool := #[o, o, o, o, o, o, o, o, o, o, o, o, o, o, o, o, o, o, o, o, o, o, o, o, o, o, z, z, z, z, z, z, z, z, z, z, z, z, z, z, z, z, z, z, z, z, z, z, z, z, z, z, z, z, z, z, z, z, z, z, z, z, z, z]
abbrev qq.m26 : Array Bool := #[o, o, o, o, o, o, o, o, o, o, o, o, o, o, o, o, o, o, o, o, o, o, o, o, o, o, o, z, z, z, z, z, z, z, z, z, z, z, z, z, z, z, z, z, z, z, z, z, z, z, z, z, z, z, z, z, z, z, z, z, z, z, z, z]
abbrev qq.m27 : Array Bool := #[o, o, o, o, o, o, o, o, o, o, o, o, o, o, o, o, o, o, o, o, o, o, o, o, o, o, o, z, o, z, z, z, z, z, z, z, z, z, z, z, z, z, z, z, z, z, z, z, z, z, z, z, z, z, z, z, z, z, z, z, z, z, z, z]
abbrev qq.m28 : Array Bool := #[o, o, o, o, o, o, o, o, o, o, o, o, o, o, o, o, o, o, o, o, o, o, o, o, o, o, o, o, o, o, z, z, z, z, z, z, z, z, z, z, z, z, z, z, z, z, z, z, z, z, z, z, z, z, z, z, z, z, z, z, z, z, z, z]
abbrev qq.m29 : Array Bool := #[o, o, o, o, o, o, o, o, o, o, o, o, o, o, o, o, o, o, o, o, o, o, o, o, o, o, o, o, o, z, z, z, z, z, z, z, z, z, z, z, z, z, z, z, z, z, z, z, z, z, z, z, z, z, z, z, z, z, z, z, z, z, z, z]
abbrev qq.m30 : Array Bool := #[o, o, o, o, o, o, o, o, o, o, o, o, o, o, o, o, o, o, o, o, o, o, o, o, o, o, o, z, o, o, z, z, z, z, z, z, z, z, z, z, z, z, z, z, z, z, z, z, z, z, z, z, z, z, z, z, z, z, z, z, z, z, z, z]
abbrev qq.m31 : Array Bool := #[o, o, o, o, o, o, o, o, o, o, o, o, o, o, o, o, o, o, o, o, o, o, o, o, o, o, o, o, o, o, o, z, z, z, z, z, z, z, z, z, z, z, z, z, z, z, z, z, z, z, z, z, z, z, z, z, z, z, z, z, z, z, z, z]
abbrev qq.m32 : Array Bool := #[o, o, o, o, o, o, o, o, o, o, o, o, o, o, o, o, o, o, o, o, o, o, o, o, o, o, o, o, o, o, o, o, z, z, z, z, z, z, z, z, z, z, z, z, z, z, z, z, z, z, z, z, z, z, z, z, z, z, z, z, z, z, z, z]
abbrev qq.m33 : Array Bool := #[o, o, o, o, o, o, o, o, o, o, o, o, o, o, o, o, o, o, o, o, o, o, o, o, o, o, o, o, o, o, o, o, o, z, z, z, z, z, z, z, z, z, z, z, z, z, z, z, z, z, z, z, z, z, z, z, z, z, z, z, z, z, z, z]
abbrev qq.m34 : Array Bool := #[o, o, o, o, o, o, o, o, o, o, o, o, o, o, o, o, o, o, o, o, o, o, o, o, o, o, o, o, o, o, o, o, o, o, z, z, z, z, z, z, z, z, z, z, z, z, z, z, z, z, z, z, z, z, z, z, z, z, z, z, z, z, z, z]
abbrev qq.m35 : Array Bool := #[o, o, o, o, o, o, o, o, o, o, o, o, o, o, o, o, o, o, o, o, o, o, o, o, o, o, o, o, o, o, o, o, o, o, o, z, z, z, z, z, z, z, z, z, z, z, z, z, z, z, z, z, z, z, z, z, z, z, z, z, z, z, z, z]
abbrev qq.m36 : Array Bool := #[o, o, o, o, o, o, o, o, o, o, o, o, o, o, o, o, o, o, o, o, o, o, o, o, o, o, o, o, o, o, o, o, o, o, o, o, z, z, z, z, z, z, z, z, z, z, z, z, z, z, z, z, z, z, z, z, z, z, z, z, z, z, z, z]
abbrev qq.m37 : Array Bool := #[o, o, o, o, o, o, o, o, o, o, o, o, o, o, o, o, o, o, o, o, o, o, o, o, o, o, o, o, o, o, o, o, o, o, o, o, o, z, z, z, z, z, z, z, z, z, z, z, z, z, z, z, z, z, z, z, z, z, z, z, z, z, z, z]
abbrev qq.m38 : Array Bool := #[o, o, o, o, o, o, o, o, o, o, o, o, o, o, o, o, o, o, o, o, o, o, o, o, o, o, o, o, o, o, o, o, o, o, o, o, o, o, z, z, z, z, z, z, z, z, z, z, z, z, z, z, z, z, z, z, z, z, z, z, z, z, z, z]
abbrev qq.m39 : Array Bool := #[o, o, o, o, o, o, o, o, o, o, o, o, o, o, o, o, o, o, o, o, o, o, o, o, o, o, o, o, o, o, o, o, o, o, o, o, o, o, o, z, z, z, z, z, z, z, z, z, z, z, z, z, z, z, z, z, z, z, z, z, z, z, z, z]
abbrev qq.m40 : Array Bool := #[o, o, o, o, o, o, o, o, o, o, o, o, o, o, o, o, o, o, o, o, o, o, o, o, o, o, o, o, o, o, o, o, o, o, o, o, o, o, o, o, z, z, z, z, z, z, z, z, z, z, z, z, z, z, z, z, z, z, z, z, z, z, z, z]
abbrev qq.m41 : Array Bool := #[o, o, o, o, o, o, o, o, o, o, o, o, o, o, o, o, o, o, o, o, o, o, o, o, o, o, o, o, o, o, o, o, o, o, o, o, o, o, o, o, o, z, z, z, z, z, z, z, z, z, z, z, z, z, z, z, z, z, z, z, z, z, z, z]
abbrev qq.m42 : Array Bool := #[o, o, o, o, o, o, o, o, o, o, o, o, o, o, o, o, o, o, o, o, o, o, o, o, o, o, o, o, o, o, o, o, o, o, o, o, o, o, o, o, o, o, z, z, z, z, z, z, z, z, z, z, z, z, z, z, z, z, z, z, z, z, z, z]
abbrev qq.m43 : Array Bool := #[o, o, o, o, o, o, o, o, o, o, o, o, o, o, o, o, o, o, o, o, o, o, o, o, o, o, o, o, o, o, o, o, o, o, o, o, o, o, o, o, o, o, o, z, z, z, z, z, z, z, z, z, z, z, z, z, z, z, z, z, z, z, z, z]
abbrev qq.m44 : Array Bool := #[o, o, o, o, o, o, o, o, o, o, o, o, o, o, o, o, o, o, o, o, o, o, o, o, o, o, o, o, o, o, o, o, o, o, o, o, o, o, o, o, o, o, o, o, z, z, z, z, z, z, z, z, z, z, z, z, z, z, z, z, z, z, z, z]
abbrev qq.m45 : Array Bool := #[o, o, o, o, o, o, o, o, o, o, o, o, o, o, o, o, o, o, o, o, o, o, o, o, o, o, o, o, o, o, o, o, o, o, o, o, o, o, o, o, o, o, o, o, z, z, z, o, z, z, z, z, z, z, z, z, z, z, z, z, z, z, z, z]
abbrev qq.m46 : Array Bool := #[o, o, o, o, o, o, o, o, o, o, o, o, o, o, o, o, o, o, o, o, o, o, o, o, o, o, o, o, o, o, o, o, o, o, o, o, o, o, o, o, o, o, o, o, o, z, z, o, z, z, z, z, z, z, z, z, z, z, z, z, z, z, z, z]
abbrev qq.m47 : Array Bool := #[o, o, o, o, o, o, o, o, o, o, o, o, o, o, o, o, o, o, o, o, o, o, o, o, o, o, o, o, o, o, o, o, o, o, o, o, o, o, o, o, o, o, o, o, o, o, z, o, z, z, z, z, z, z, z, z, z, z, z, z, z, z, z, z]
abbrev qq.m48 : Array Bool := #[o, o, o, o, o, o, o, o, o, o, o, o, o, o, o, o, o, o, o, o, o, o, o, o, o, o, o, o, o, o, o, o, o, o, o, o, o, o, o, o, o, o, o, o, o, o, o, o, z, z, z, z, z, z, z, z, z, z, z, z, z, z, z, z]
abbrev qq.m49 : Array Bool := #[o, o, o, o, o, o, o, o, o, o, o, o, o, o, o, o, o, o, o, o, o, o, o, o, o, o, o, o, o, o, o, o, o, o, o, o, o, o, o, o, o, o, o, o, o, o, o, o, o, z, z, z, z, z, z, z, z, z, z, z, z, z, z, z]
abbrev qq.m50 : Array Bool := #[o, o, o, o, o, o, o, o, o, o, o, o, o, o, o, o, o, o, o, o, o, o, o, o, o, o, o, o, o, o, o, o, o, o, o, o, o, o, o, o, o, o, o, o, o, o, o, o, o, o, z, z, z, z, z, z, z, z, z, z, z, z, z, z]
abbrev qq.m51 : Array Bool := #[o, o, o, o, o, o, o, o, o, o, o, o, o, o, o, o, o, o, o, o, o, o, o, o, o, o, o, o, o, o, o, o, o, o, o, o, o, o, o, o, o, o, o, o, o, o, o, o, o, o, o, z, z, z, z, z, z, z, z, z, z, z, z, z]
abbrev qq.m52 : Array Bool := #[o, o, o, o, o, o, o, o, o, o, o, o, o, o, o, o, o, o, o, o, o, o, o, o, o, o, o, o, o, o, o, o, o, o, o, o, o, o, o, o, o, o, o, o, o, o, o, o, o, o, o, o, z, z, z, z, z, z, z, z, z, z, z, z]
abbrev qq.m53 : Array Bool := #[o, o, o, o, o, o, o, o, o, o, o, o, o, o, o, o, o, o, o, o, o, o, o, o, o, o, o, o, o, o, o, o, o, o, o, o, o, o, o, o, o, o, o, o, o, o, o, o, o, o, o, o, o, z, z, z, z, z, z, z, z, z, z, z]
abbrev qq.m54 : Array Bool := #[o, o, o, o, o, o, o, o, o, o, o, o, o, o, o, o, o, o, o, o, o, o, o, o, o, o, o, o, o, o, o, o, o, o, o, o, o, o, o, o, o, o, o, o, o, o, o, o, o, o, o, o, o, o, z, z, z, z, z, z, z, z, z, z]
abbrev qq.m55 : Array Bool := #[o, o, o, o, o, o, o, o, o, o, o, o, o, o, o, o, o, o, o, o, o, o, o, o, o, o, o, o, o, o, o, o, o, o, o, o, o, o, o, o, o, o, o, o, o, o, o, o, o, o, o, o, o, o, o, z, z, z, z, z, z, z, z, z]
abbrev qq.m56 : Array Bool := #[o, o, o, o, o, o, o, o, o, o, o, o, o, o, o, o, o, o, o, o, o, o, o, o, o, o, o, o, o, o, o, o, o, o, o, o, o, o, o, o, o, o, o, o, o, o, o, o, o, o, o, o, o, o, o, o, z, z, z, z, z, z, z, z]
abbrev qq.m57 : Array Bool := #[o, o, o, o, o, o, o, o, o, o, o, o, o, o, o, o, o, o, o, o, o, o, o, o, o, o, o, o, o, o, o, o, o, o, o, o, o, o, o, o, o, o, o, o, o, o, o, o, o, o, o, o, o, o, o, o, o, z, z, z, z, z, z, z]
abbrev qq.m58 : Array Bool := #[o, o, o, o, o, o, o, o, o, o, o, o, o, o, o, o, o, o, o, o, o, o, o, o, o, o, o, o, o, o, o, o, o, o, o, o, o, o, o, o, o, o, o, o, o, o, o, o, o, o, o, o, o, o, o, o, o, o, z, z, z, z, z, z]
abbrev qq.m59 : Array Bool := #[o, o, o, o, o, o, o, o, o, o, o, o, o, o, o, o, o, o, o, o, o, o, o, o, o, o, o, o, o, o, o, o, o, o, o, o, o, o, o, o, o, o, o, o, o, o, o, o, o, o, o, o, o, o, o, o, o, o, o, z, z, z, z, z]
abbrev qq.m60 : Array Bool := #[o, o, o, o, o, o, o, o, o, o, o, o, o, o, o, o, o, o, o, o, o, o, o, o, o, o, o, o, o, o, o, o, o, o, o, o, o, o, o, o, o, o, o, o, o, o, o, o, o, o, o, o, o, o, o, o, o, o, o, o, z, z, z, z]
abbrev qq.m61 : Array Bool := #[o, o, o, o, o, o, o, o, o, o, o, o, o, o, o, o, o, o, o, o, o, o, o, o, o, o, o, o, o, o, o, o, o, o, o, o, o, o, o, o, o, o, o, o, o, o, o, o, o, o, o, o, o, o, o, o, o, o, o, o, o, z, z, z]
abbrev qq.m62 : Array Bool := #[o, o, o, o, o, o, o, o, o, o, o, o, o, o, o, o, o, o, o, o, o, o, o, o, o, o, o, o, o, o, o, o, o, o, o, o, o, o, o, o, o, o, o, o, o, o, o, o, o, o, o, o, o, o, o, o, o, o, o, o, o, o, z, z]
abbrev qq.m63 : Array Bool := #[o, o, o, o, o, o, o, o, o, o, o, o, o, o, o, o, o, o, o, o, o, o, o, o, o, o, o, o, o, o, o, o, o, o, o, o, o, o, o, o, o, o, o, o, o, o, o, o, o, o, o, o, o, o, o, o, o, o, o, o, o, o, o, z]
abbrev qq.m64 : Array Bool := #[o, o, o, o, o, o, o, o, o, o, o, o, o, o, o, o, o, o, o, o, o, o, o, o, o, o, o, o, o, o, o, o, o, o, o, o, o, o, o, o, o, o, o, o, o, o, o, o, o, o, o, o, o, o, o, o, o, o, o, o, o, o, o, o]
abbrev qq.m65 : Array Bool := #[o, o, o, o, o, o, o, o, o, o, o, o, o, o, o, o, o, o, o, o, o, o, o, o, o, o, o, o, z, z, z, z, z, z, z, z, z, z, z, z, z, z, z, z, z, z, z, z, z, z, z, z, z, z, z, z, z, z, z, z, z, z, z, z]
abbrev qq.m66 : Array Bool := #[o, o, o, o, o, o, o, o, o, o, o, o, o, o, o, o, o, o, o, o, o, o, o, o, o, o, o, o, o, o, o, o, o, o, o, o, o, o, z, o, z, z, z, z, z, z, z, z, z, z, z, z, z, z, z, z, z, z, z, z, z, z, z, z]
abbrev qq.m67 : Array Bool := #[o, o, o, o, o, o, o, o, o, o, o, o, o, o, o, o, o, o, o, o, o, o, o, o, o, o, o, o, o, o, o, o, o, o, o, o, o, o, o, o, o, o, o, o, o, o, o, o, o, o, o, o, o, o, o, o, o, o, o, z, o, z, z, z]
set_option maxRecDepth 100000 in
set_option maxHeartbeats 20000000 in
theorem main (a m b n bl k : Int) (va vb vm vt : Bool) (p q j1 j2 en : Int) (cb : Nat) (w : World) (ht : Told a m b n va vb vm vt p q j1 j2 en cb) :
    Calls Try.prog 6 #[.agg #[.int .i64 a, .int .i64 m], .agg #[.int .i64 b, .int .i64 n], .int .i64 bl, .int .i64 k] w (Ends w) := by
  have HT := Aside0.mk ht
  have HB := Aside0.mk (Below.refl w.heap.size w)
  clear ht
  go_enter Try.func6, Try.ntmps6
  go_wp2_with fail
  refine calls_abs (fun X => Below w.heap.size w X ∧ Blk X w.heap.size 24 #[.int .i64 a, .int .i64 m] ∧ Blk X (w.heap.size + 1) 24 #[.int .i64 b, .int .i64 n]) ⟨by repeat (first | exact Below.refl _ _ | apply below_alloc), (Blk.new _ _ _).alloc _, Blk.new2 _ _ _ _⟩ ?_
  rintro w0 ⟨hb, h0, h1⟩
  replace HB := Aside0.mk hb
  have A0 := Aside0.mk h0
  have A1 := Aside0.mk h1
  clear hb h0 h1
  obtain ⟨g0, hg0⟩ : ∃ g, g = w.heap.size := ⟨_, rfl⟩
  rw [← hg0] at A0 A1 ⊢
  have Hg0 := Aside0.mk hg0
  clear hg0
  obtain ⟨g1, hg1⟩ : ∃ g, g = g0 + 1 := ⟨_, rfl⟩
  rw [← hg1] at A1 ⊢
  have Hg1 := Aside0.mk hg1
  clear hg1
  obtain ⟨sx, hsx⟩ : ∃ s, s = spanS a m := ⟨_, rfl⟩
  obtain ⟨sy, hsy⟩ : ∃ s, s = spanS b n := ⟨_, rfl⟩
  have Hx : Aside0 (sx.length = 64) := ⟨by rw [hsx]; exact spanS_len _ _⟩
  have Hy : Aside0 (sy.length = 64) := ⟨by rw [hsy]; exact spanS_len _ _⟩
  replace hsx := Aside0.mk hsx
  replace hsy := Aside0.mk hsy
  refine (alive1 _).mono ?_
  rintro e w1 ⟨rfl, hB⟩
  replace HB := Aside0.mk (below_step HB.out hB)
  replace A0 := Aside0.mk (A0.out.keep hB)
  replace A1 := Aside0.mk (A1.out.keep hB)
  clear hB
  have hWs : Aside0 (w.heap.size ≤ w1.heap.size) := ⟨HB.out.size⟩
  have HS : Aside0 (Below w1.heap.size w1 w1) := ⟨Below.refl _ _⟩
  have LT_A0 : Aside0 (g0 < w1.heap.size) := ⟨A0.out.lt⟩
  have LT_A1 : Aside0 (g1 < w1.heap.size) := ⟨A1.out.lt⟩
  have X0 := Aside0.mk (A0.out.cell (i := 0) (v := .int .i64 a) rfl)
  have X1 := Aside0.mk (A0.out.cell (i := 1) (v := .int .i64 m) rfl)
  have Y0 := Aside0.mk (A1.out.cell (i := 0) (v := .int .i64 b) rfl)
  have Y1 := Aside0.mk (A1.out.cell (i := 1) (v := .int .i64 n) rfl)
  go_wp2_with fail
  as_aux_lemma =>
  refine start_ (n := 8) (S := fun w' => Below w.heap.size w w' ∧ Below w1.heap.size w1 w' ∧ Blk w' g0 24 #[.int .i64 a, .int .i64 m] ∧ Blk w' g1 24 #[.int .i64 b, .int .i64 n] ∧ w'.cell? ⟨g0, 0, none⟩ = some (.int .i64 a) ∧ w'.cell? ⟨g0, 1, none⟩ = some (.int .i64 m) ∧ w'.cell? ⟨g1, 0, none⟩ = some (.int .i64 b) ∧ w'.cell? ⟨g1, 1, none⟩ = some (.int .i64 n)) (ds := [6, 7]) #[false, false, false, false, false, false, false, false] (by kernel_rfl) rfl rfl ⟨(below_drew1 HB.out), (below_drew1 HS.out), (A0.out.keep (below_drew1 (Below.refl _ _))), (A1.out.keep (below_drew1 (Below.refl _ _))), (keep (below_drew1 (Below.refl _ _)) X0.out), (keep (below_drew1 (Below.refl _ _)) X1.out), (keep (below_drew1 (Below.refl _ _)) Y0.out), (keep (below_drew1 (Below.refl _ _)) Y1.out)⟩ (fun hh => ?_)
  refine take_ (i := 0) (N := some 27) (v := ?_) (a' := ?_) #[true, false, false, false, false, false, false, false] rfl rfl (by kernel_rfl) (fun _ _ _ h => h) (Or.inl ⟨by rfl, ?_⟩) hh ?_ ?_
  rotate_left
  · rintro w' ⟨s0, s1, s2, s3, s4, s5, s6, s7⟩
    go_simp
    with_reducible rfl
  rotate_left
  · simp only [Act.put, sA, sB, sC, i64_w, i32_w]
    rfl
  refine take_ (i := 2) (N := some 29) (v := ?_) (a' := ?_) #[true, false, true, false, false, false, false, false] rfl rfl (by kernel_rfl) (fun _ _ _ h => h) (Or.inl ⟨by rfl, ?_⟩) hh ?_ ?_
  rotate_left
  · rintro w' ⟨s0, s1, s2, s3, s4, s5, s6, s7⟩
    go_simp
    with_reducible rfl
  rotate_left
  · simp only [Act.put, sA, sB, sC, i64_w, i32_w]
    rfl
  refine join_ (σ := Nat × Nat) 2 #[true, true, true, true, true, true, false, false] (fun s_ => [(28, .agg (setArr sx)), (30, .agg (setArr sy)), (9, .pointer (some ⟨s_.1, 0, none⟩)), (10, .pointer (some ⟨s_.2, 0, none⟩))]) (fun s_ w' => (Below w.heap.size w w' ∧ Below w1.heap.size w1 w' ∧ Blk w' g0 24 #[.int .i64 a, .int .i64 m] ∧ Blk w' g1 24 #[.int .i64 b, .int .i64 n] ∧ w'.cell? ⟨g0, 0, none⟩ = some (.int .i64 a) ∧ w'.cell? ⟨g0, 1, none⟩ = some (.int .i64 m) ∧ w'.cell? ⟨g1, 0, none⟩ = some (.int .i64 b) ∧ w'.cell? ⟨g1, 1, none⟩ = some (.int .i64 n)) ∧ Blk w' s_.1 30 (setArr none64) ∧ Blk w' s_.2 30 (setArr none64) ∧ s_.1 ≠ s_.2 ∧ w1.heap.size ≤ s_.1 ∧ w1.heap.size ≤ s_.2) ?_ ?_
  rotate_left
  · intro hCont
    refine three_ (i := 1) (j := 4) (k := 5) (Ni := some 28) (Nj := some 9) (Nk := some 10) #[true, true, true, false, false, false, false, false] #[true, false, true, false, true, false, false, false] #[true, false, true, false, false, true, false, false] rfl rfl rfl rfl rfl rfl (by kernel_rfl) (by decide) (by decide) (by decide) (fun K hK => ?_) (fun K hK => ?_) (fun K hK => ?_)
    · skip
      refine goes_ Try.func20 (by kernel_rfl) rfl #[.agg #[.int .i64 a, .int .i64 m]] (by rfl) rfl rfl (by simp only [List.map_toArray, List.map_cons, List.map_nil]; rfl) ?_
      with_reducible refine (set1 a m sx hsx.out _).mono ?_
      rintro e w31 ⟨rfl, hb⟩
      refine ⟨_, rfl, ?_⟩
      refine hK.out _ _ ⟨(below_step hh.1 hb), (below_step hh.2.1 hb), (hh.2.2.1.keep hb), (hh.2.2.2.1.keep hb), (keep hb hh.2.2.2.2.1), (keep hb hh.2.2.2.2.2.1), (keep hb hh.2.2.2.2.2.2.1), (keep hb hh.2.2.2.2.2.2.2)⟩ (fun hH2 => ?_)
      clear hK K hh
      try clear hb
      have hh := hH2
      clear hH2
      refine norm_ (a' := ?_) ?_ ?_
      rotate_left
      · show Act.put _ (some 28) _ = _
        simp only [Act.put, sA, sB, sC, i64_w, i32_w]
        rfl
      refine three_ (i := 3) (j := 4) (k := 5) (Ni := some 30) (Nj := some 9) (Nk := some 10) #[true, true, true, true, false, false, false, false] #[true, true, true, false, true, false, false, false] #[true, true, true, false, false, true, false, false] rfl rfl rfl rfl rfl rfl (by kernel_rfl) (by decide) (by decide) (by decide) (fun K hK => ?_) (fun K hK => ?_) (fun K hK => ?_)
      · skip
        refine goes_ Try.func20 (by kernel_rfl) rfl #[.agg #[.int .i64 b, .int .i64 n]] (by rfl) rfl rfl (by simp only [List.map_toArray, List.map_cons, List.map_nil]; rfl) ?_
        with_reducible refine (set1 b n sy hsy.out _).mono ?_
        rintro e w33 ⟨rfl, hb⟩
        refine ⟨_, rfl, ?_⟩
        refine hK.out _ _ ⟨(below_step hh.1 hb), (below_step hh.2.1 hb), (hh.2.2.1.keep hb), (hh.2.2.2.1.keep hb), (keep hb hh.2.2.2.2.1), (keep hb hh.2.2.2.2.2.1), (keep hb hh.2.2.2.2.2.2.1), (keep hb hh.2.2.2.2.2.2.2)⟩ (fun hH2 => ?_)
        clear hK K hh
        try clear hb
        have hh := hH2
        clear hH2
        refine norm_ (a' := ?_) ?_ ?_
        rotate_left
        · show Act.put _ (some 30) _ = _
          simp only [Act.put, sA, sB, sC, i64_w, i32_w]
          rfl
        refine two_ (i := 4) (j := 5) (Ni := some 9) (Nj := some 10) #[true, true, true, true, true, false, false, false] #[true, true, true, true, false, true, false, false] rfl rfl rfl rfl (by kernel_rfl) (by decide) (by decide) (fun K hK => ?_) (fun K hK => ?_)
        · skip
          refine value_ (w1 := ?_) (v := ?_) (by rfl) rfl ?_ ?_
          rotate_left 2
          · go_simp
            constructor
            · rfl
            · rfl
          have hN4 : Blk (w33.alloc (.cells (setArr none64) 30)) (w33.heap.size) 30 (setArr none64) := Blk.newN _ _ _ _ (by simp)
          have hg4 : w1.heap.size ≤ w33.heap.size := by first | exact hh.2.1.size | (have := hh.2.1.size; simp at this; omega)
          refine hK.out _ _ ⟨(below_alloc hh.1 _), (below_alloc hh.2.1 _), (hh.2.2.1.keep (below_alloc (Below.refl _ _) _)), (hh.2.2.2.1.keep (below_alloc (Below.refl _ _) _)), (keep (below_alloc (Below.refl _ _) _) hh.2.2.2.2.1), (keep (below_alloc (Below.refl _ _) _) hh.2.2.2.2.2.1), (keep (below_alloc (Below.refl _ _) _) hh.2.2.2.2.2.2.1), (keep (below_alloc (Below.refl _ _) _) hh.2.2.2.2.2.2.2)⟩ (fun hH2 => ?_)
          clear hK K hh
          try clear hb
          have hh := hH2
          clear hH2
          refine norm_ (a' := ?_) ?_ ?_
          rotate_left
          · show Act.put _ (some 9) _ = _
            simp only [Act.put, sA, sB, sC, i64_w, i32_w]
            rfl
          refine one_ (i := 5) (N := some 10) #[true, true, true, true, true, true, false, false] rfl rfl (by kernel_rfl) (by decide) (fun K hK => ?_)
          refine value_ (w1 := ?_) (v := ?_) (by rfl) rfl ?_ ?_
          rotate_left 2
          · go_simp
            constructor
            · rfl
            · rfl
          have hN5 : Blk ((w33.alloc (.cells (setArr none64) 30)).alloc (.cells (setArr none64) 30)) (w33.heap.size + 1) 30 (setArr none64) := Blk.newN _ _ _ _ (by simp)
          have hg5 : w1.heap.size ≤ w33.heap.size + 1 := by first | exact hh.2.1.size | (have := hh.2.1.size; simp at this; omega)
          have hne : w33.heap.size ≠ w33.heap.size + 1 := by have := hN4.lt; first | omega | (simp at this; omega)
          replace hN4 := hN4.alloc (.cells (setArr none64) 30)
          refine hK.out _ _ ⟨(below_alloc hh.1 _), (below_alloc hh.2.1 _), (hh.2.2.1.keep (below_alloc (Below.refl _ _) _)), (hh.2.2.2.1.keep (below_alloc (Below.refl _ _) _)), (keep (below_alloc (Below.refl _ _) _) hh.2.2.2.2.1), (keep (below_alloc (Below.refl _ _) _) hh.2.2.2.2.2.1), (keep (below_alloc (Below.refl _ _) _) hh.2.2.2.2.2.2.1), (keep (below_alloc (Below.refl _ _) _) hh.2.2.2.2.2.2.2)⟩ (fun hH2 => ?_)
          clear hK K hh
          try clear hb
          have hh := hH2
          clear hH2
          refine norm_ (a' := ?_) ?_ ?_
          rotate_left
          · show Act.put _ (some 10) _ = _
            simp only [Act.put, sA, sB, sC, i64_w, i32_w]
            rfl
          exact norm_ (by simp only [putAll, Act.put, sA, sB, sC]) (hCont (w33.heap.size, w33.heap.size + 1) _ ⟨hh, hN4, hN5, hne, hg4, hg5⟩)
        · skip
          refine value_ (w1 := ?_) (v := ?_) (by rfl) rfl ?_ ?_
          rotate_left 2
          · go_simp
            constructor
            · rfl
            · rfl
          have hN5 : Blk (w33.alloc (.cells (setArr none64) 30)) (w33.heap.size) 30 (setArr none64) := Blk.newN _ _ _ _ (by simp)
          have hg5 : w1.heap.size ≤ w33.heap.size := by first | exact hh.2.1.size | (have := hh.2.1.size; simp at this; omega)
          refine hK.out _ _ ⟨(below_alloc hh.1 _), (below_alloc hh.2.1 _), (hh.2.2.1.keep (below_alloc (Below.refl _ _) _)), (hh.2.2.2.1.keep (below_alloc (Below.refl _ _) _)), (keep (below_alloc (Below.refl _ _) _) hh.2.2.2.2.1), (keep (below_alloc (Below.refl _ _) _) hh.2.2.2.2.2.1), (keep (below_alloc (Below.refl _ _) _) hh.2.2.2.2.2.2.1), (keep (below_alloc (Below.refl _ _) _) hh.2.2.2.2.2.2.2)⟩ (fun hH2 => ?_)
          clear hK K hh
          try clear hb
          have hh := hH2
          clear hH2
          refine norm_ (a' := ?_) ?_ ?_
          rotate_left
          · show Act.put _ (some 10) _ = _
            simp only [Act.put, sA, sB, sC, i64_w, i32_w]
            rfl
          refine one_ (i := 4) (N := some 9) #[true, true, true, true, true, true, false, false] rfl rfl (by kernel_rfl) (by decide) (fun K hK => ?_)
          refine value_ (w1 := ?_) (v := ?_) (by rfl) rfl ?_ ?_
          rotate_left 2
          · go_simp
            constructor
            · rfl
            · rfl
          have hN4 : Blk ((w33.alloc (.cells (setArr none64) 30)).alloc (.cells (setArr none64) 30)) (w33.heap.size + 1) 30 (setArr none64) := Blk.newN _ _ _ _ (by simp)
          have hg4 : w1.heap.size ≤ w33.heap.size + 1 := by first | exact hh.2.1.size | (have := hh.2.1.size; simp at this; omega)
          have hne : w33.heap.size ≠ w33.heap.size + 1 := by have := hN5.lt; first | omega | (simp at this; omega)
          replace hN5 := hN5.alloc (.cells (setArr none64) 30)
          refine hK.out _ _ ⟨(below_alloc hh.1 _), (below_alloc hh.2.1 _), (hh.2.2.1.keep (below_alloc (Below.refl _ _) _)), (hh.2.2.2.1.keep (below_alloc (Below.refl _ _) _)), (keep (below_alloc (Below.refl _ _) _) hh.2.2.2.2.1), (keep (below_alloc (Below.refl _ _) _) hh.2.2.2.2.2.1), (keep (below_alloc (Below.refl _ _) _) hh.2.2.2.2.2.2.1), (keep (below_alloc (Below.refl _ _) _) hh.2.2.2.2.2.2.2)⟩ (fun hH2 => ?_)
          clear hK K hh
          try clear hb
          have hh := hH2
          clear hH2
          refine norm_ (a' := ?_) ?_ ?_
          rotate_left
          · show Act.put _ (some 9) _ = _
            simp only [Act.put, sA, sB, sC, i64_w, i32_w]
            rfl
          exact norm_ (by simp only [putAll, Act.put, sA, sB, sC]) (hCont (w33.heap.size + 1, w33.heap.size) _ ⟨hh, hN4, hN5, Ne.symm hne, hg4, hg5⟩)
      · skip
        refine value_ (w1 := ?_) (v := ?_) (by rfl) rfl ?_ ?_
        rotate_left 2
        · go_simp
          constructor
          · rfl
          · rfl
        have hN4 : Blk (w31.alloc (.cells (setArr none64) 30)) (w31.heap.size) 30 (setArr none64) := Blk.newN _ _ _ _ (by simp)
        have hg4 : w1.heap.size ≤ w31.heap.size := by first | exact hh.2.1.size | (have := hh.2.1.size; simp at this; omega)
        refine hK.out _ _ ⟨(below_alloc hh.1 _), (below_alloc hh.2.1 _), (hh.2.2.1.keep (below_alloc (Below.refl _ _) _)), (hh.2.2.2.1.keep (below_alloc (Below.refl _ _) _)), (keep (below_alloc (Below.refl _ _) _) hh.2.2.2.2.1), (keep (below_alloc (Below.refl _ _) _) hh.2.2.2.2.2.1), (keep (below_alloc (Below.refl _ _) _) hh.2.2.2.2.2.2.1), (keep (below_alloc (Below.refl _ _) _) hh.2.2.2.2.2.2.2)⟩ (fun hH2 => ?_)
        clear hK K hh
        try clear hb
        have hh := hH2
        clear hH2
        refine norm_ (a' := ?_) ?_ ?_
        rotate_left
        · show Act.put _ (some 9) _ = _
          simp only [Act.put, sA, sB, sC, i64_w, i32_w]
          rfl
        refine two_ (i := 3) (j := 5) (Ni := some 30) (Nj := some 10) #[true, true, true, true, true, false, false, false] #[true, true, true, false, true, true, false, false] rfl rfl rfl rfl (by kernel_rfl) (by decide) (by decide) (fun K hK => ?_) (fun K hK => ?_)
        · skip
          refine goes_ Try.func20 (by kernel_rfl) rfl #[.agg #[.int .i64 b, .int .i64 n]] (by rfl) rfl rfl (by simp only [List.map_toArray, List.map_cons, List.map_nil]; rfl) ?_
          with_reducible refine (set1 b n sy hsy.out _).mono ?_
          rintro e w33 ⟨rfl, hb⟩
          refine ⟨_, rfl, ?_⟩
          replace hN4 := hN4.keep hb
          refine hK.out _ _ ⟨(below_step hh.1 hb), (below_step hh.2.1 hb), (hh.2.2.1.keep hb), (hh.2.2.2.1.keep hb), (keep hb hh.2.2.2.2.1), (keep hb hh.2.2.2.2.2.1), (keep hb hh.2.2.2.2.2.2.1), (keep hb hh.2.2.2.2.2.2.2)⟩ (fun hH2 => ?_)
          clear hK K hh
          try clear hb
          have hh := hH2
          clear hH2
          refine norm_ (a' := ?_) ?_ ?_
          rotate_left
          · show Act.put _ (some 30) _ = _
            simp only [Act.put, sA, sB, sC, i64_w, i32_w]
            rfl
          refine one_ (i := 5) (N := some 10) #[true, true, true, true, true, true, false, false] rfl rfl (by kernel_rfl) (by decide) (fun K hK => ?_)
          refine value_ (w1 := ?_) (v := ?_) (by rfl) rfl ?_ ?_
          rotate_left 2
          · go_simp
            constructor
            · rfl
            · rfl
          have hN5 : Blk (w33.alloc (.cells (setArr none64) 30)) (w33.heap.size) 30 (setArr none64) := Blk.newN _ _ _ _ (by simp)
          have hg5 : w1.heap.size ≤ w33.heap.size := by first | exact hh.2.1.size | (have := hh.2.1.size; simp at this; omega)
          have hne : w31.heap.size ≠ w33.heap.size := by have := hN4.lt; first | omega | (simp at this; omega)
          replace hN4 := hN4.alloc (.cells (setArr none64) 30)
          refine hK.out _ _ ⟨(below_alloc hh.1 _), (below_alloc hh.2.1 _), (hh.2.2.1.keep (below_alloc (Below.refl _ _) _)), (hh.2.2.2.1.keep (below_alloc (Below.refl _ _) _)), (keep (below_alloc (Below.refl _ _) _) hh.2.2.2.2.1), (keep (below_alloc (Below.refl _ _) _) hh.2.2.2.2.2.1), (keep (below_alloc (Below.refl _ _) _) hh.2.2.2.2.2.2.1), (keep (below_alloc (Below.refl _ _) _) hh.2.2.2.2.2.2.2)⟩ (fun hH2 => ?_)
          clear hK K hh
          try clear hb
          have hh := hH2
          clear hH2
          refine norm_ (a' := ?_) ?_ ?_
          rotate_left
          · show Act.put _ (some 10) _ = _
            simp only [Act.put, sA, sB, sC, i64_w, i32_w]
            rfl
          exact norm_ (by simp only [putAll, Act.put, sA, sB, sC]) (hCont (w31.heap.size, w33.heap.size) _ ⟨hh, hN4, hN5, hne, hg4, hg5⟩)
        · skip
          refine value_ (w1 := ?_) (v := ?_) (by rfl) rfl ?_ ?_
          rotate_left 2
          · go_simp
            constructor
            · rfl
            · rfl
          have hN5 : Blk ((w31.alloc (.cells (setArr none64) 30)).alloc (.cells (setArr none64) 30)) (w31.heap.size + 1) 30 (setArr none64) := Blk.newN _ _ _ _ (by simp)
          have hg5 : w1.heap.size ≤ w31.heap.size + 1 := by first | exact hh.2.1.size | (have := hh.2.1.size; simp at this; omega)
          have hne : w31.heap.size ≠ w31.heap.size + 1 := by have := hN4.lt; first | omega | (simp at this; omega)
          replace hN4 := hN4.alloc (.cells (setArr none64) 30)
          refine hK.out _ _ ⟨(below_alloc hh.1 _), (below_alloc hh.2.1 _), (hh.2.2.1.keep (below_alloc (Below.refl _ _) _)), (hh.2.2.2.1.keep (below_alloc (Below.refl _ _) _)), (keep (below_alloc (Below.refl _ _) _) hh.2.2.2.2.1), (keep (below_alloc (Below.refl _ _) _) hh.2.2.2.2.2.1), (keep (below_alloc (Below.refl _ _) _) hh.2.2.2.2.2.2.1), (keep (below_alloc (Below.refl _ _) _) hh.2.2.2.2.2.2.2)⟩ (fun hH2 => ?_)
          clear hK K hh
          try clear hb
          have hh := hH2
          clear hH2
          refine norm_ (a' := ?_) ?_ ?_
          rotate_left
          · show Act.put _ (some 10) _ = _
            simp only [Act.put, sA, sB, sC, i64_w, i32_w]
            rfl
          refine one_ (i := 3) (N := some 30) #[true, true, true, true, true, true, false, false] rfl rfl (by kernel_rfl) (by decide) (fun K hK => ?_)
          refine goes_ Try.func20 (by kernel_rfl) rfl #[.agg #[.int .i64 b, .int .i64 n]] (by rfl) rfl rfl (by simp only [List.map_toArray, List.map_cons, List.map_nil]; rfl) ?_
          with_reducible refine (set1 b n sy hsy.out _).mono ?_
          rintro e w33 ⟨rfl, hb⟩
          refine ⟨_, rfl, ?_⟩
          replace hN4 := hN4.keep hb
          replace hN5 := hN5.keep hb
          refine hK.out _ _ ⟨(below_step hh.1 hb), (below_step hh.2.1 hb), (hh.2.2.1.keep hb), (hh.2.2.2.1.keep hb), (keep hb hh.2.2.2.2.1), (keep hb hh.2.2.2.2.2.1), (keep hb hh.2.2.2.2.2.2.1), (keep hb hh.2.2.2.2.2.2.2)⟩ (fun hH2 => ?_)
          clear hK K hh
          try clear hb
          have hh := hH2
          clear hH2
          refine norm_ (a' := ?_) ?_ ?_
          rotate_left
          · show Act.put _ (some 30) _ = _
            simp only [Act.put, sA, sB, sC, i64_w, i32_w]
            rfl
          exact norm_ (by simp only [putAll, Act.put, sA, sB, sC]) (hCont (w31.heap.size, w31.heap.size + 1) _ ⟨hh, hN4, hN5, hne, hg4, hg5⟩)
      · skip
        refine value_ (w1 := ?_) (v := ?_) (by rfl) rfl ?_ ?_
        rotate_left 2
        · go_simp
          constructor
          · rfl
          · rfl
        have hN5 : Blk (w31.alloc (.cells (setArr none64) 30)) (w31.heap.size) 30 (setArr none64) := Blk.newN _ _ _ _ (by simp)
        have hg5 : w1.heap.size ≤ w31.heap.size := by first | exact hh.2.1.size | (have := hh.2.1.size; simp at this; omega)
        refine hK.out _ _ ⟨(below_alloc hh.1 _), (below_alloc hh.2.1 _), (hh.2.2.1.keep (below_alloc (Below.refl _ _) _)), (hh.2.2.2.1.keep (below_alloc (Below.refl _ _) _)), (keep (below_alloc (Below.refl _ _) _) hh.2.2.2.2.1), (keep (below_alloc (Below.refl _ _) _) hh.2.2.2.2.2.1), (keep (below_alloc (Below.refl _ _) _) hh.2.2.2.2.2.2.1), (keep (below_alloc (Below.refl _ _) _) hh.2.2.2.2.2.2.2)⟩ (fun hH2 => ?_)
        clear hK K hh
        try clear hb
        have hh := hH2
        clear hH2
        refine norm_ (a' := ?_) ?_ ?_
        rotate_left
        · show Act.put _ (some 10) _ = _
          simp only [Act.put, sA, sB, sC, i64_w, i32_w]
          rfl
        refine two_ (i := 3) (j := 4) (Ni := some 30) (Nj := some 9) #[true, true, true, true, false, true, false, false] #[true, true, true, false, true, true, false, false] rfl rfl rfl rfl (by kernel_rfl) (by decide) (by decide) (fun K hK => ?_) (fun K hK => ?_)
        · skip
          refine goes_ Try.func20 (by kernel_rfl) rfl #[.agg #[.int .i64 b, .int .i64 n]] (by rfl) rfl rfl (by simp only [List.map_toArray, List.map_cons, List.map_nil]; rfl) ?_
          with_reducible refine (set1 b n sy hsy.out _).mono ?_
          rintro e w33 ⟨rfl, hb⟩
          refine ⟨_, rfl, ?_⟩
          replace hN5 := hN5.keep hb
          refine hK.out _ _ ⟨(below_step hh.1 hb), (below_step hh.2.1 hb), (hh.2.2.1.keep hb), (hh.2.2.2.1.keep hb), (keep hb hh.2.2.2.2.1), (keep hb hh.2.2.2.2.2.1), (keep hb hh.2.2.2.2.2.2.1), (keep hb hh.2.2.2.2.2.2.2)⟩ (fun hH2 => ?_)
          clear hK K hh
          try clear hb
          have hh := hH2
          clear hH2
          refine norm_ (a' := ?_) ?_ ?_
          rotate_left
          · show Act.put _ (some 30) _ = _
            simp only [Act.put, sA, sB, sC, i64_w, i32_w]
            rfl
          refine one_ (i := 4) (N := some 9) #[true, true, true, true, true, true, false, false] rfl rfl (by kernel_rfl) (by decide) (fun K hK => ?_)
          refine value_ (w1 := ?_) (v := ?_) (by rfl) rfl ?_ ?_
          rotate_left 2
          · go_simp
            constructor
            · rfl
            · rfl
          have hN4 : Blk (w33.alloc (.cells (setArr none64) 30)) (w33.heap.size) 30 (setArr none64) := Blk.newN _ _ _ _ (by simp)
          have hg4 : w1.heap.size ≤ w33.heap.size := by first | exact hh.2.1.size | (have := hh.2.1.size; simp at this; omega)
          have hne : w31.heap.size ≠ w33.heap.size := by have := hN5.lt; first | omega | (simp at this; omega)
          replace hN5 := hN5.alloc (.cells (setArr none64) 30)
          refine hK.out _ _ ⟨(below_alloc hh.1 _), (below_alloc hh.2.1 _), (hh.2.2.1.keep (below_alloc (Below.refl _ _) _)), (hh.2.2.2.1.keep (below_alloc (Below.refl _ _) _)), (keep (below_alloc (Below.refl _ _) _) hh.2.2.2.2.1), (keep (below_alloc (Below.refl _ _) _) hh.2.2.2.2.2.1), (keep (below_alloc (Below.refl _ _) _) hh.2.2.2.2.2.2.1), (keep (below_alloc (Below.refl _ _) _) hh.2.2.2.2.2.2.2)⟩ (fun hH2 => ?_)
          clear hK K hh
          try clear hb
          have hh := hH2
          clear hH2
          refine norm_ (a' := ?_) ?_ ?_
          rotate_left
          · show Act.put _ (some 9) _ = _
            simp only [Act.put, sA, sB, sC, i64_w, i32_w]
            rfl
          exact norm_ (by simp only [putAll, Act.put, sA, sB, sC]) (hCont (w33.heap.size, w31.heap.size) _ ⟨hh, hN4, hN5, Ne.symm hne, hg4, hg5⟩)
        · skip
          refine value_ (w1 := ?_) (v := ?_) (by rfl) rfl ?_ ?_
          rotate_left 2
          · go_simp
            constructor
            · rfl
            · rfl
          have hN4 : Blk ((w31.alloc (.cells (setArr none64) 30)).alloc (.cells (setArr none64) 30)) (w31.heap.size + 1) 30 (setArr none64) := Blk.newN _ _ _ _ (by simp)
          have hg4 : w1.heap.size ≤ w31.heap.size + 1 := by first | exact hh.2.1.size | (have := hh.2.1.size; simp at this; omega)
          have hne : w31.heap.size ≠ w31.heap.size + 1 := by have := hN5.lt; first | omega | (simp at this; omega)
          replace hN5 := hN5.alloc (.cells (setArr none64) 30)
          refine hK.out _ _ ⟨(below_alloc hh.1 _), (below_alloc hh.2.1 _), (hh.2.2.1.keep (below_alloc (Below.refl _ _) _)), (hh.2.2.2.1.keep (below_alloc (Below.refl _ _) _)), (keep (below_alloc (Below.refl _ _) _) hh.2.2.2.2.1), (keep (below_alloc (Below.refl _ _) _) hh.2.2.2.2.2.1), (keep (below_alloc (Below.refl _ _) _) hh.2.2.2.2.2.2.1), (keep (below_alloc (Below.refl _ _) _) hh.2.2.2.2.2.2.2)⟩ (fun hH2 => ?_)
          clear hK K hh
          try clear hb
          have hh := hH2
          clear hH2
          refine norm_ (a' := ?_) ?_ ?_
          rotate_left
          · show Act.put _ (some 9) _ = _
            simp only [Act.put, sA, sB, sC, i64_w, i32_w]
            rfl
          refine one_ (i := 3) (N := some 30) #[true, true, true, true, true, true, false, false] rfl rfl (by kernel_rfl) (by decide) (fun K hK => ?_)
          refine goes_ Try.func20 (by kernel_rfl) rfl #[.agg #[.int .i64 b, .int .i64 n]] (by rfl) rfl rfl (by simp only [List.map_toArray, List.map_cons, List.map_nil]; rfl) ?_
          with_reducible refine (set1 b n sy hsy.out _).mono ?_
          rintro e w33 ⟨rfl, hb⟩
          refine ⟨_, rfl, ?_⟩
          replace hN4 := hN4.keep hb
          replace hN5 := hN5.keep hb
          refine hK.out _ _ ⟨(below_step hh.1 hb), (below_step hh.2.1 hb), (hh.2.2.1.keep hb), (hh.2.2.2.1.keep hb), (keep hb hh.2.2.2.2.1), (keep hb hh.2.2.2.2.2.1), (keep hb hh.2.2.2.2.2.2.1), (keep hb hh.2.2.2.2.2.2.2)⟩ (fun hH2 => ?_)
          clear hK K hh
          try clear hb
          have hh := hH2
          clear hH2
          refine norm_ (a' := ?_) ?_ ?_
          rotate_left
          · show Act.put _ (some 30) _ = _
            simp only [Act.put, sA, sB, sC, i64_w, i32_w]
            rfl
          exact norm_ (by simp only [putAll, Act.put, sA, sB, sC]) (hCont (w31.heap.size + 1, w31.heap.size) _ ⟨hh, hN4, hN5, Ne.symm hne, hg4, hg5⟩)
    · skip
      refine value_ (w1 := ?_) (v := ?_) (by rfl) rfl ?_ ?_
      rotate_left 2
      · go_simp
        constructor
        · rfl
        · rfl
      have hN4 : Blk (w1.drew.alloc (.cells (setArr none64) 30)) (w1.heap.size) 30 (setArr none64) := Blk.newN _ _ _ _ (by simp)
      have hg4 : w1.heap.size ≤ w1.heap.size := by first | exact hh.2.1.size | (have := hh.2.1.size; simp at this; omega)
      refine hK.out _ _ ⟨(below_alloc hh.1 _), (below_alloc hh.2.1 _), (hh.2.2.1.keep (below_alloc (Below.refl _ _) _)), (hh.2.2.2.1.keep (below_alloc (Below.refl _ _) _)), (keep (below_alloc (Below.refl _ _) _) hh.2.2.2.2.1), (keep (below_alloc (Below.refl _ _) _) hh.2.2.2.2.2.1), (keep (below_alloc (Below.refl _ _) _) hh.2.2.2.2.2.2.1), (keep (below_alloc (Below.refl _ _) _) hh.2.2.2.2.2.2.2)⟩ (fun hH2 => ?_)
      clear hK K hh
      try clear hb
      have hh := hH2
      clear hH2
      refine norm_ (a' := ?_) ?_ ?_
      rotate_left
      · show Act.put _ (some 9) _ = _
        simp only [Act.put, sA, sB, sC, i64_w, i32_w]
        rfl
      refine two_ (i := 1) (j := 5) (Ni := some 28) (Nj := some 10) #[true, true, true, false, true, false, false, false] #[true, false, true, false, true, true, false, false] rfl rfl rfl rfl (by kernel_rfl) (by decide) (by decide) (fun K hK => ?_) (fun K hK => ?_)
      · skip
        refine goes_ Try.func20 (by kernel_rfl) rfl #[.agg #[.int .i64 a, .int .i64 m]] (by rfl) rfl rfl (by simp only [List.map_toArray, List.map_cons, List.map_nil]; rfl) ?_
        with_reducible refine (set1 a m sx hsx.out _).mono ?_
        rintro e w31 ⟨rfl, hb⟩
        refine ⟨_, rfl, ?_⟩
        replace hN4 := hN4.keep hb
        refine hK.out _ _ ⟨(below_step hh.1 hb), (below_step hh.2.1 hb), (hh.2.2.1.keep hb), (hh.2.2.2.1.keep hb), (keep hb hh.2.2.2.2.1), (keep hb hh.2.2.2.2.2.1), (keep hb hh.2.2.2.2.2.2.1), (keep hb hh.2.2.2.2.2.2.2)⟩ (fun hH2 => ?_)
        clear hK K hh
        try clear hb
        have hh := hH2
        clear hH2
        refine norm_ (a' := ?_) ?_ ?_
        rotate_left
        · show Act.put _ (some 28) _ = _
          simp only [Act.put, sA, sB, sC, i64_w, i32_w]
          rfl
        refine two_ (i := 3) (j := 5) (Ni := some 30) (Nj := some 10) #[true, true, true, true, true, false, false, false] #[true, true, true, false, true, true, false, false] rfl rfl rfl rfl (by kernel_rfl) (by decide) (by decide) (fun K hK => ?_) (fun K hK => ?_)
        · skip
          refine goes_ Try.func20 (by kernel_rfl) rfl #[.agg #[.int .i64 b, .int .i64 n]] (by rfl) rfl rfl (by simp only [List.map_toArray, List.map_cons, List.map_nil]; rfl) ?_
          with_reducible refine (set1 b n sy hsy.out _).mono ?_
          rintro e w33 ⟨rfl, hb⟩
          refine ⟨_, rfl, ?_⟩
          replace hN4 := hN4.keep hb
          refine hK.out _ _ ⟨(below_step hh.1 hb), (below_step hh.2.1 hb), (hh.2.2.1.keep hb), (hh.2.2.2.1.keep hb), (keep hb hh.2.2.2.2.1), (keep hb hh.2.2.2.2.2.1), (keep hb hh.2.2.2.2.2.2.1), (keep hb hh.2.2.2.2.2.2.2)⟩ (fun hH2 => ?_)
          clear hK K hh
          try clear hb
          have hh := hH2
          clear hH2
          refine norm_ (a' := ?_) ?_ ?_
          rotate_left
          · show Act.put _ (some 30) _ = _
            simp only [Act.put, sA, sB, sC, i64_w, i32_w]
            rfl
          refine one_ (i := 5) (N := some 10) #[true, true, true, true, true, true, false, false] rfl rfl (by kernel_rfl) (by decide) (fun K hK => ?_)
          refine value_ (w1 := ?_) (v := ?_) (by rfl) rfl ?_ ?_
          rotate_left 2
          · go_simp
            constructor
            · rfl
            · rfl
          have hN5 : Blk (w33.alloc (.cells (setArr none64) 30)) (w33.heap.size) 30 (setArr none64) := Blk.newN _ _ _ _ (by simp)
          have hg5 : w1.heap.size ≤ w33.heap.size := by first | exact hh.2.1.size | (have := hh.2.1.size; simp at this; omega)
          have hne : w1.heap.size ≠ w33.heap.size := by have := hN4.lt; first | omega | (simp at this; omega)
          replace hN4 := hN4.alloc (.cells (setArr none64) 30)
          refine hK.out _ _ ⟨(below_alloc hh.1 _), (below_alloc hh.2.1 _), (hh.2.2.1.keep (below_alloc (Below.refl _ _) _)), (hh.2.2.2.1.keep (below_alloc (Below.refl _ _) _)), (keep (below_alloc (Below.refl _ _) _) hh.2.2.2.2.1), (keep (below_alloc (Below.refl _ _) _) hh.2.2.2.2.2.1), (keep (below_alloc (Below.refl _ _) _) hh.2.2.2.2.2.2.1), (keep (below_alloc (Below.refl _ _) _) hh.2.2.2.2.2.2.2)⟩ (fun hH2 => ?_)
          clear hK K hh
          try clear hb
          have hh := hH2
          clear hH2
          refine norm_ (a' := ?_) ?_ ?_
          rotate_left
          · show Act.put _ (some 10) _ = _
            simp only [Act.put, sA, sB, sC, i64_w, i32_w]
            rfl
          exact norm_ (by simp only [putAll, Act.put, sA, sB, sC]) (hCont (w1.heap.size, w33.heap.size) _ ⟨hh, hN4, hN5, hne, hg4, hg5⟩)
        · skip
          refine value_ (w1 := ?_) (v := ?_) (by rfl) rfl ?_ ?_
          rotate_left 2
          · go_simp
            constructor
            · rfl
            · rfl
          have hN5 : Blk (w31.alloc (.cells (setArr none64) 30)) (w31.heap.size) 30 (setArr none64) := Blk.newN _ _ _ _ (by simp)
          have hg5 : w1.heap.size ≤ w31.heap.size := by first | exact hh.2.1.size | (have := hh.2.1.size; simp at this; omega)
          have hne : w1.heap.size ≠ w31.heap.size := by have := hN4.lt; first | omega | (simp at this; omega)
          replace hN4 := hN4.alloc (.cells (setArr none64) 30)
          refine hK.out _ _ ⟨(below_alloc hh.1 _), (below_alloc hh.2.1 _), (hh.2.2.1.keep (below_alloc (Below.refl _ _) _)), (hh.2.2.2.1.keep (below_alloc (Below.refl _ _) _)), (keep (below_alloc (Below.refl _ _) _) hh.2.2.2.2.1), (keep (below_alloc (Below.refl _ _) _) hh.2.2.2.2.2.1), (keep (below_alloc (Below.refl _ _) _) hh.2.2.2.2.2.2.1), (keep (below_alloc (Below.refl _ _) _) hh.2.2.2.2.2.2.2)⟩ (fun hH2 => ?_)
          clear hK K hh
          try clear hb
          have hh := hH2
          clear hH2
          refine norm_ (a' := ?_) ?_ ?_
          rotate_left
          · show Act.put _ (some 10) _ = _
            simp only [Act.put, sA, sB, sC, i64_w, i32_w]
            rfl
          refine one_ (i := 3) (N := some 30) #[true, true, true, true, true, true, false, false] rfl rfl (by kernel_rfl) (by decide) (fun K hK => ?_)
          refine goes_ Try.func20 (by kernel_rfl) rfl #[.agg #[.int .i64 b, .int .i64 n]] (by rfl) rfl rfl (by simp only [List.map_toArray, List.map_cons, List.map_nil]; rfl) ?_
          with_reducible refine (set1 b n sy hsy.out _).mono ?_
          rintro e w33 ⟨rfl, hb⟩
          refine ⟨_, rfl, ?_⟩
          replace hN4 := hN4.keep hb
          replace hN5 := hN5.keep hb
          refine hK.out _ _ ⟨(below_step hh.1 hb), (below_step hh.2.1 hb), (hh.2.2.1.keep hb), (hh.2.2.2.1.keep hb), (keep hb hh.2.2.2.2.1), (keep hb hh.2.2.2.2.2.1), (keep hb hh.2.2.2.2.2.2.1), (keep hb hh.2.2.2.2.2.2.2)⟩ (fun hH2 => ?_)
          clear hK K hh
          try clear hb
          have hh := hH2
          clear hH2
          refine norm_ (a' := ?_) ?_ ?_
          rotate_left
          · show Act.put _ (some 30) _ = _
            simp only [Act.put, sA, sB, sC, i64_w, i32_w]
            rfl
          exact norm_ (by simp only [putAll, Act.put, sA, sB, sC]) (hCont (w1.heap.size, w31.heap.size) _ ⟨hh, hN4, hN5, hne, hg4, hg5⟩)
      · skip
        refine value_ (w1 := ?_) (v := ?_) (by rfl) rfl ?_ ?_
        rotate_left 2
        · go_simp
          constructor
          · rfl
          · rfl
        have hN5 : Blk ((w1.drew.alloc (.cells (setArr none64) 30)).alloc (.cells (setArr none64) 30)) (w1.heap.size + 1) 30 (setArr none64) := Blk.newN _ _ _ _ (by simp)
        have hg5 : w1.heap.size ≤ w1.heap.size + 1 := by first | exact hh.2.1.size | (have := hh.2.1.size; simp at this; omega)
        have hne : w1.heap.size ≠ w1.heap.size + 1 := by have := hN4.lt; first | omega | (simp at this; omega)
        replace hN4 := hN4.alloc (.cells (setArr none64) 30)
        refine hK.out _ _ ⟨(below_alloc hh.1 _), (below_alloc hh.2.1 _), (hh.2.2.1.keep (below_alloc (Below.refl _ _) _)), (hh.2.2.2.1.keep (below_alloc (Below.refl _ _) _)), (keep (below_alloc (Below.refl _ _) _) hh.2.2.2.2.1), (keep (below_alloc (Below.refl _ _) _) hh.2.2.2.2.2.1), (keep (below_alloc (Below.refl _ _) _) hh.2.2.2.2.2.2.1), (keep (below_alloc (Below.refl _ _) _) hh.2.2.2.2.2.2.2)⟩ (fun hH2 => ?_)
        clear hK K hh
        try clear hb
        have hh := hH2
        clear hH2
        refine norm_ (a' := ?_) ?_ ?_
        rotate_left
        · show Act.put _ (some 10) _ = _
          simp only [Act.put, sA, sB, sC, i64_w, i32_w]
          rfl
        refine one_ (i := 1) (N := some 28) #[true, true, true, false, true, true, false, false] rfl rfl (by kernel_rfl) (by decide) (fun K hK => ?_)
        refine goes_ Try.func20 (by kernel_rfl) rfl #[.agg #[.int .i64 a, .int .i64 m]] (by rfl) rfl rfl (by simp only [List.map_toArray, List.map_cons, List.map_nil]; rfl) ?_
        with_reducible refine (set1 a m sx hsx.out _).mono ?_
        rintro e w31 ⟨rfl, hb⟩
        refine ⟨_, rfl, ?_⟩
        replace hN4 := hN4.keep hb
        replace hN5 := hN5.keep hb
        refine hK.out _ _ ⟨(below_step hh.1 hb), (below_step hh.2.1 hb), (hh.2.2.1.keep hb), (hh.2.2.2.1.keep hb), (keep hb hh.2.2.2.2.1), (keep hb hh.2.2.2.2.2.1), (keep hb hh.2.2.2.2.2.2.1), (keep hb hh.2.2.2.2.2.2.2)⟩ (fun hH2 => ?_)
        clear hK K hh
        try clear hb
        have hh := hH2
        clear hH2
        refine norm_ (a' := ?_) ?_ ?_
        rotate_left
        · show Act.put _ (some 28) _ = _
          simp only [Act.put, sA, sB, sC, i64_w, i32_w]
          rfl
        refine one_ (i := 3) (N := some 30) #[true, true, true, true, true, true, false, false] rfl rfl (by kernel_rfl) (by decide) (fun K hK => ?_)
        refine goes_ Try.func20 (by kernel_rfl) rfl #[.agg #[.int .i64 b, .int .i64 n]] (by rfl) rfl rfl (by simp only [List.map_toArray, List.map_cons, List.map_nil]; rfl) ?_
        with_reducible refine (set1 b n sy hsy.out _).mono ?_
        rintro e w33 ⟨rfl, hb⟩
        refine ⟨_, rfl, ?_⟩
        replace hN4 := hN4.keep hb
        replace hN5 := hN5.keep hb
        refine hK.out _ _ ⟨(below_step hh.1 hb), (below_step hh.2.1 hb), (hh.2.2.1.keep hb), (hh.2.2.2.1.keep hb), (keep hb hh.2.2.2.2.1), (keep hb hh.2.2.2.2.2.1), (keep hb hh.2.2.2.2.2.2.1), (keep hb hh.2.2.2.2.2.2.2)⟩ (fun hH2 => ?_)
        clear hK K hh
        try clear hb
        have hh := hH2
        clear hH2
        refine norm_ (a' := ?_) ?_ ?_
        rotate_left
        · show Act.put _ (some 30) _ = _
          simp only [Act.put, sA, sB, sC, i64_w, i32_w]
          rfl
        exact norm_ (by simp only [putAll, Act.put, sA, sB, sC]) (hCont (w1.heap.size, w1.heap.size + 1) _ ⟨hh, hN4, hN5, hne, hg4, hg5⟩)
    · skip
      refine value_ (w1 := ?_) (v := ?_) (by rfl) rfl ?_ ?_
      rotate_left 2
      · go_simp
        constructor
        · rfl
        · rfl
      have hN5 : Blk (w1.drew.alloc (.cells (setArr none64) 30)) (w1.heap.size) 30 (setArr none64) := Blk.newN _ _ _ _ (by simp)
      have hg5 : w1.heap.size ≤ w1.heap.size := by first | exact hh.2.1.size | (have := hh.2.1.size; simp at this; omega)
      refine hK.out _ _ ⟨(below_alloc hh.1 _), (below_alloc hh.2.1 _), (hh.2.2.1.keep (below_alloc (Below.refl _ _) _)), (hh.2.2.2.1.keep (below_alloc (Below.refl _ _) _)), (keep (below_alloc (Below.refl _ _) _) hh.2.2.2.2.1), (keep (below_alloc (Below.refl _ _) _) hh.2.2.2.2.2.1), (keep (below_alloc (Below.refl _ _) _) hh.2.2.2.2.2.2.1), (keep (below_alloc (Below.refl _ _) _) hh.2.2.2.2.2.2.2)⟩ (fun hH2 => ?_)
      clear hK K hh
      try clear hb
      have hh := hH2
      clear hH2
      refine norm_ (a' := ?_) ?_ ?_
      rotate_left
      · show Act.put _ (some 10) _ = _
        simp only [Act.put, sA, sB, sC, i64_w, i32_w]
        rfl
      refine two_ (i := 1) (j := 4) (Ni := some 28) (Nj := some 9) #[true, true, true, false, false, true, false, false] #[true, false, true, false, true, true, false, false] rfl rfl rfl rfl (by kernel_rfl) (by decide) (by decide) (fun K hK => ?_) (fun K hK => ?_)
      · skip
        refine goes_ Try.func20 (by kernel_rfl) rfl #[.agg #[.int .i64 a, .int .i64 m]] (by rfl) rfl rfl (by simp only [List.map_toArray, List.map_cons, List.map_nil]; rfl) ?_
        with_reducible refine (set1 a m sx hsx.out _).mono ?_
        rintro e w31 ⟨rfl, hb⟩
        refine ⟨_, rfl, ?_⟩
        replace hN5 := hN5.keep hb
        refine hK.out _ _ ⟨(below_step hh.1 hb), (below_step hh.2.1 hb), (hh.2.2.1.keep hb), (hh.2.2.2.1.keep hb), (keep hb hh.2.2.2.2.1), (keep hb hh.2.2.2.2.2.1), (keep hb hh.2.2.2.2.2.2.1), (keep hb hh.2.2.2.2.2.2.2)⟩ (fun hH2 => ?_)
        clear hK K hh
        try clear hb
        have hh := hH2
        clear hH2
        refine norm_ (a' := ?_) ?_ ?_
        rotate_left
        · show Act.put _ (some 28) _ = _
          simp only [Act.put, sA, sB, sC, i64_w, i32_w]
          rfl
        refine two_ (i := 3) (j := 4) (Ni := some 30) (Nj := some 9) #[true, true, true, true, false, true, false, false] #[true, true, true, false, true, true, false, false] rfl rfl rfl rfl (by kernel_rfl) (by decide) (by decide) (fun K hK => ?_) (fun K hK => ?_)
        · skip
          refine goes_ Try.func20 (by kernel_rfl) rfl #[.agg #[.int .i64 b, .int .i64 n]] (by rfl) rfl rfl (by simp only [List.map_toArray, List.map_cons, List.map_nil]; rfl) ?_
          with_reducible refine (set1 b n sy hsy.out _).mono ?_
          rintro e w33 ⟨rfl, hb⟩
          refine ⟨_, rfl, ?_⟩
          replace hN5 := hN5.keep hb
          refine hK.out _ _ ⟨(below_step hh.1 hb), (below_step hh.2.1 hb), (hh.2.2.1.keep hb), (hh.2.2.2.1.keep hb), (keep hb hh.2.2.2.2.1), (keep hb hh.2.2.2.2.2.1), (keep hb hh.2.2.2.2.2.2.1), (keep hb hh.2.2.2.2.2.2.2)⟩ (fun hH2 => ?_)
          clear hK K hh
          try clear hb
          have hh := hH2
          clear hH2
          refine norm_ (a' := ?_) ?_ ?_
          rotate_left
          · show Act.put _ (some 30) _ = _
            simp only [Act.put, sA, sB, sC, i64_w, i32_w]
            rfl
          refine one_ (i := 4) (N := some 9) #[true, true, true, true, true, true, false, false] rfl rfl (by kernel_rfl) (by decide) (fun K hK => ?_)
          refine value_ (w1 := ?_) (v := ?_) (by rfl) rfl ?_ ?_
          rotate_left 2
          · go_simp
            constructor
            · rfl
            · rfl
          have hN4 : Blk (w33.alloc (.cells (setArr none64) 30)) (w33.heap.size) 30 (setArr none64) := Blk.newN _ _ _ _ (by simp)
          have hg4 : w1.heap.size ≤ w33.heap.size := by first | exact hh.2.1.size | (have := hh.2.1.size; simp at this; omega)
          have hne : w1.heap.size ≠ w33.heap.size := by have := hN5.lt; first | omega | (simp at this; omega)
          replace hN5 := hN5.alloc (.cells (setArr none64) 30)
          refine hK.out _ _ ⟨(below_alloc hh.1 _), (below_alloc hh.2.1 _), (hh.2.2.1.keep (below_alloc (Below.refl _ _) _)), (hh.2.2.2.1.keep (below_alloc (Below.refl _ _) _)), (keep (below_alloc (Below.refl _ _) _) hh.2.2.2.2.1), (keep (below_alloc (Below.refl _ _) _) hh.2.2.2.2.2.1), (keep (below_alloc (Below.refl _ _) _) hh.2.2.2.2.2.2.1), (keep (below_alloc (Below.refl _ _) _) hh.2.2.2.2.2.2.2)⟩ (fun hH2 => ?_)
          clear hK K hh
          try clear hb
          have hh := hH2
          clear hH2
          refine norm_ (a' := ?_) ?_ ?_
          rotate_left
          · show Act.put _ (some 9) _ = _
            simp only [Act.put, sA, sB, sC, i64_w, i32_w]
            rfl
          exact norm_ (by simp only [putAll, Act.put, sA, sB, sC]) (hCont (w33.heap.size, w1.heap.size) _ ⟨hh, hN4, hN5, Ne.symm hne, hg4, hg5⟩)
        · skip
          refine value_ (w1 := ?_) (v := ?_) (by rfl) rfl ?_ ?_
          rotate_left 2
          · go_simp
            constructor
            · rfl
            · rfl
          have hN4 : Blk (w31.alloc (.cells (setArr none64) 30)) (w31.heap.size) 30 (setArr none64) := Blk.newN _ _ _ _ (by simp)
          have hg4 : w1.heap.size ≤ w31.heap.size := by first | exact hh.2.1.size | (have := hh.2.1.size; simp at this; omega)
          have hne : w1.heap.size ≠ w31.heap.size := by have := hN5.lt; first | omega | (simp at this; omega)
          replace hN5 := hN5.alloc (.cells (setArr none64) 30)
          refine hK.out _ _ ⟨(below_alloc hh.1 _), (below_alloc hh.2.1 _), (hh.2.2.1.keep (below_alloc (Below.refl _ _) _)), (hh.2.2.2.1.keep (below_alloc (Below.refl _ _) _)), (keep (below_alloc (Below.refl _ _) _) hh.2.2.2.2.1), (keep (below_alloc (Below.refl _ _) _) hh.2.2.2.2.2.1), (keep (below_alloc (Below.refl _ _) _) hh.2.2.2.2.2.2.1), (keep (below_alloc (Below.refl _ _) _) hh.2.2.2.2.2.2.2)⟩ (fun hH2 => ?_)
          clear hK K hh
          try clear hb
          have hh := hH2
          clear hH2
          refine norm_ (a' := ?_) ?_ ?_
          rotate_left
          · show Act.put _ (some 9) _ = _
            simp only [Act.put, sA, sB, sC, i64_w, i32_w]
            rfl
          refine one_ (i := 3) (N := some 30) #[true, true, true, true, true, true, false, false] rfl rfl (by kernel_rfl) (by decide) (fun K hK => ?_)
          refine goes_ Try.func20 (by kernel_rfl) rfl #[.agg #[.int .i64 b, .int .i64 n]] (by rfl) rfl rfl (by simp only [List.map_toArray, List.map_cons, List.map_nil]; rfl) ?_
          with_reducible refine (set1 b n sy hsy.out _).mono ?_
          rintro e w33 ⟨rfl, hb⟩
          refine ⟨_, rfl, ?_⟩
          replace hN4 := hN4.keep hb
          replace hN5 := hN5.keep hb
          refine hK.out _ _ ⟨(below_step hh.1 hb), (below_step hh.2.1 hb), (hh.2.2.1.keep hb), (hh.2.2.2.1.keep hb), (keep hb hh.2.2.2.2.1), (keep hb hh.2.2.2.2.2.1), (keep hb hh.2.2.2.2.2.2.1), (keep hb hh.2.2.2.2.2.2.2)⟩ (fun hH2 => ?_)
          clear hK K hh
          try clear hb
          have hh := hH2
          clear hH2
          refine norm_ (a' := ?_) ?_ ?_
          rotate_left
          · show Act.put _ (some 30) _ = _
            simp only [Act.put, sA, sB, sC, i64_w, i32_w]
            rfl
          exact norm_ (by simp only [putAll, Act.put, sA, sB, sC]) (hCont (w31.heap.size, w1.heap.size) _ ⟨hh, hN4, hN5, Ne.symm hne, hg4, hg5⟩)
      · skip
        refine value_ (w1 := ?_) (v := ?_) (by rfl) rfl ?_ ?_
        rotate_left 2
        · go_simp
          constructor
          · rfl
          · rfl
        have hN4 : Blk ((w1.drew.alloc (.cells (setArr none64) 30)).alloc (.cells (setArr none64) 30)) (w1.heap.size + 1) 30 (setArr none64) := Blk.newN _ _ _ _ (by simp)
        have hg4 : w1.heap.size ≤ w1.heap.size + 1 := by first | exact hh.2.1.size | (have := hh.2.1.size; simp at this; omega)
        have hne : w1.heap.size ≠ w1.heap.size + 1 := by have := hN5.lt; first | omega | (simp at this; omega)
        replace hN5 := hN5.alloc (.cells (setArr none64) 30)
        refine hK.out _ _ ⟨(below_alloc hh.1 _), (below_alloc hh.2.1 _), (hh.2.2.1.keep (below_alloc (Below.refl _ _) _)), (hh.2.2.2.1.keep (below_alloc (Below.refl _ _) _)), (keep (below_alloc (Below.refl _ _) _) hh.2.2.2.2.1), (keep (below_alloc (Below.refl _ _) _) hh.2.2.2.2.2.1), (keep (below_alloc (Below.refl _ _) _) hh.2.2.2.2.2.2.1), (keep (below_alloc (Below.refl _ _) _) hh.2.2.2.2.2.2.2)⟩ (fun hH2 => ?_)
        clear hK K hh
        try clear hb
        have hh := hH2
        clear hH2
        refine norm_ (a' := ?_) ?_ ?_
        rotate_left
        · show Act.put _ (some 9) _ = _
          simp only [Act.put, sA, sB, sC, i64_w, i32_w]
          rfl
        refine one_ (i := 1) (N := some 28) #[true, true, true, false, true, true, false, false] rfl rfl (by kernel_rfl) (by decide) (fun K hK => ?_)
        refine goes_ Try.func20 (by kernel_rfl) rfl #[.agg #[.int .i64 a, .int .i64 m]] (by rfl) rfl rfl (by simp only [List.map_toArray, List.map_cons, List.map_nil]; rfl) ?_
        with_reducible refine (set1 a m sx hsx.out _).mono ?_
        rintro e w31 ⟨rfl, hb⟩
        refine ⟨_, rfl, ?_⟩
        replace hN4 := hN4.keep hb
        replace hN5 := hN5.keep hb
        refine hK.out _ _ ⟨(below_step hh.1 hb), (below_step hh.2.1 hb), (hh.2.2.1.keep hb), (hh.2.2.2.1.keep hb), (keep hb hh.2.2.2.2.1), (keep hb hh.2.2.2.2.2.1), (keep hb hh.2.2.2.2.2.2.1), (keep hb hh.2.2.2.2.2.2.2)⟩ (fun hH2 => ?_)
        clear hK K hh
        try clear hb
        have hh := hH2
        clear hH2
        refine norm_ (a' := ?_) ?_ ?_
        rotate_left
        · show Act.put _ (some 28) _ = _
          simp only [Act.put, sA, sB, sC, i64_w, i32_w]
          rfl
        refine one_ (i := 3) (N := some 30) #[true, true, true, true, true, true, false, false] rfl rfl (by kernel_rfl) (by decide) (fun K hK => ?_)
        refine goes_ Try.func20 (by kernel_rfl) rfl #[.agg #[.int .i64 b, .int .i64 n]] (by rfl) rfl rfl (by simp only [List.map_toArray, List.map_cons, List.map_nil]; rfl) ?_
        with_reducible refine (set1 b n sy hsy.out _).mono ?_
        rintro e w33 ⟨rfl, hb⟩
        refine ⟨_, rfl, ?_⟩
        replace hN4 := hN4.keep hb
        replace hN5 := hN5.keep hb
        refine hK.out _ _ ⟨(below_step hh.1 hb), (below_step hh.2.1 hb), (hh.2.2.1.keep hb), (hh.2.2.2.1.keep hb), (keep hb hh.2.2.2.2.1), (keep hb hh.2.2.2.2.2.1), (keep hb hh.2.2.2.2.2.2.1), (keep hb hh.2.2.2.2.2.2.2)⟩ (fun hH2 => ?_)
        clear hK K hh
        try clear hb
        have hh := hH2
        clear hH2
        refine norm_ (a' := ?_) ?_ ?_
        rotate_left
        · show Act.put _ (some 30) _ = _
          simp only [Act.put, sA, sB, sC, i64_w, i32_w]
          rfl
        exact norm_ (by simp only [putAll, Act.put, sA, sB, sC]) (hCont (w1.heap.size + 1, w1.heap.size) _ ⟨hh, hN4, hN5, Ne.symm hne, hg4, hg5⟩)
  rintro ⟨g9, g10⟩ w40 ⟨hS_, hNa, hNb, hne, hga, hgb⟩
  simp only at hNa hNb hne hga hgb
  have hh : (Below w.heap.size w w40 ∧ Below w1.heap.size w1 w40 ∧ Blk w40 g0 24 #[.int .i64 a, .int .i64 m] ∧ Blk w40 g1 24 #[.int .i64 b, .int .i64 n] ∧ w40.cell? ⟨g0, 0, none⟩ = some (.int .i64 a) ∧ w40.cell? ⟨g0, 1, none⟩ = some (.int .i64 m) ∧ w40.cell? ⟨g1, 0, none⟩ = some (.int .i64 b) ∧ w40.cell? ⟨g1, 1, none⟩ = some (.int .i64 n)) := hS_
  refine norm_ (a' := ?_) ?_ ?_
  rotate_left
  · simp only [putAll, Act.put, sA, sB, sC]
    rfl
  refine last_ (i := 6) (N := none) #[true, true, true, true, true, true, true, false] rfl rfl (by kernel_rfl) (by decide) (fun K hK => ?_)
  rw [if_pos (by rfl)]
  refine wp_store_row 30 (.tmp 9) (.tmp 28) (by rfl) g9 (setArr sx) (by rfl) (by rfl) 30 (setArr none64) hNa.hd (by rw [setArr_size, Hx.out] <;> exact info30) (by rw [setArr_size, setArr_size, Hx.out, List.length_replicate]) (setArr_one _) ?_
  refine hK.out _ _ ?_
  clear hK K
  refine last_ (i := 7) (N := none) #[true, true, true, true, true, true, true, true] rfl rfl (by kernel_rfl) (by decide) (fun K hK => ?_)
  rw [if_pos (by rfl)]
  refine wp_store_row 30 (.tmp 10) (.tmp 30) (by rfl) g10 (setArr sy) (by rfl) (by rfl) 30 (setArr none64) (hNb.rowFar (Ne.symm hne) _).hd (by rw [setArr_size, Hy.out] <;> exact info30) (by rw [setArr_size, setArr_size, Hy.out, List.length_replicate]) (setArr_one _) ?_
  refine hK.out _ _ ?_
  clear hK K
  refine done_ (by kernel_rfl) ?_
  have hga2 := Nat.le_trans hWs.out hga
  have hgb2 := Nat.le_trans hWs.out hgb
  replace HB := Aside0.mk (below_setRow (below_setRow hh.1 hga2 (setArr sx)) hgb2 (setArr sy))
  replace A0 := Aside0.mk ((hh.2.2.1.rowFar (show g0 ≠ g9 by have := LT_A0.out; omega) (setArr sx)).rowFar (show g0 ≠ g10 by have := LT_A0.out; omega) (setArr sy))
  clear LT_A0
  replace A1 := Aside0.mk ((hh.2.2.2.1.rowFar (show g1 ≠ g9 by have := LT_A1.out; omega) (setArr sx)).rowFar (show g1 ≠ g10 by have := LT_A1.out; omega) (setArr sy))
  clear LT_A1
  have ZA := Aside0.mk ((hNa.row (setArr sx)).rowFar hne (setArr sy))
  have ZB := Aside0.mk ((hNb.rowFar (Ne.symm hne) (setArr sx)).row (setArr sy))
  have NE_ZA_ZB := Aside0.mk hne
  have GE_ZA := Aside0.mk hga2
  have GE_ZB := Aside0.mk hgb2
  clear hh hS_ hNa hNb hne hga hgb hga2 hgb2 hWs
  generalize (w40.setRow g9 (setArr sx)).setRow g10 (setArr sy) = w40r at *
  clear HS
  clear X0
  clear X1
  clear Y0
  clear Y1
  refine exit_norm (a' := ?_) ?_ ?_
  rotate_left
  · simp only [Act.put, List.getElem_toArray, List.getElem_cons_succ, List.getElem_cons_zero]
    rfl
  have hWs : Aside0 (w.heap.size ≤ w40r.heap.size) := ⟨HB.out.size⟩
  have HS : Aside0 (Below w40r.heap.size w40r w40r) := ⟨Below.refl _ _⟩
  have LT_A0 : Aside0 (g0 < w40r.heap.size) := ⟨A0.out.lt⟩
  have LT_A1 : Aside0 (g1 < w40r.heap.size) := ⟨A1.out.lt⟩
  have LT_ZA : Aside0 (g9 < w40r.heap.size) := ⟨ZA.out.lt⟩
  have LT_ZB : Aside0 (g10 < w40r.heap.size) := ⟨ZB.out.lt⟩
  go_wp2_with fail
  as_aux_lemma =>
  refine start_ (n := 6) (S := fun w' => Below w.heap.size w w' ∧ Below w40r.heap.size w40r w' ∧ Blk w' g0 24 #[.int .i64 a, .int .i64 m] ∧ Blk w' g1 24 #[.int .i64 b, .int .i64 n] ∧ Blk w' g9 30 (setArr sx) ∧ Blk w' g10 30 (setArr sy)) (ds := [5]) #[false, false, false, false, false, false] (by kernel_rfl) rfl rfl ⟨(below_drew1 HB.out), (below_drew1 HS.out), (A0.out.keep (below_drew1 (Below.refl _ _))), (A1.out.keep (below_drew1 (Below.refl _ _))), (ZA.out.keep (below_drew1 (Below.refl _ _))), (ZB.out.keep (below_drew1 (Below.refl _ _)))⟩ (fun hh => ?_)
  refine take_ (i := 0) (N := some 31) (v := ?_) (a' := ?_) #[true, false, false, false, false, false] rfl rfl (by kernel_rfl) (fun _ _ _ h => h) (Or.inl ⟨by rfl, ?_⟩) hh ?_ ?_
  rotate_left
  · rintro w' ⟨s0, s1, s2, s3, s4, s5⟩
    refine row_yields 30 (.tmp 9) ?_ g9 ?_ 30 (setArr sx) (0, 0) _ s4.hd Try.underlying30 rfl (by rw [setArr_size, Hx.out] <;> exact info30)
    · rfl
    · rfl
  rotate_left
  · simp only [Act.put, sA, sB, sC, i64_w, i32_w]
    rfl
  refine take_ (i := 1) (N := some 32) (v := ?_) (a' := ?_) #[true, true, false, false, false, false] rfl rfl (by kernel_rfl) (fun _ _ _ h => h) (Or.inl ⟨by rfl, ?_⟩) hh ?_ ?_
  rotate_left
  · rintro w' ⟨s0, s1, s2, s3, s4, s5⟩
    refine row_yields 30 (.tmp 9) ?_ g9 ?_ 30 (setArr sx) (0, 0) _ s4.hd Try.underlying30 rfl (by rw [setArr_size, Hx.out] <;> exact info30)
    · rfl
    · rfl
  rotate_left
  · simp only [Act.put, sA, sB, sC, i64_w, i32_w]
    rfl
  refine join_ (σ := Nat × Nat) 2 #[true, true, true, true, false, false] (fun s_ => [(11, .pointer (some ⟨s_.1, 0, none⟩)), (12, .pointer (some ⟨s_.2, 0, none⟩))]) (fun s_ w' => (Below w.heap.size w w' ∧ Below w40r.heap.size w40r w' ∧ Blk w' g0 24 #[.int .i64 a, .int .i64 m] ∧ Blk w' g1 24 #[.int .i64 b, .int .i64 n] ∧ Blk w' g9 30 (setArr sx) ∧ Blk w' g10 30 (setArr sy)) ∧ Blk w' s_.1 30 (setArr none64) ∧ Blk w' s_.2 30 (setArr none64) ∧ s_.1 ≠ s_.2 ∧ w40r.heap.size ≤ s_.1 ∧ w40r.heap.size ≤ s_.2) ?_ ?_
  rotate_left
  · intro hCont
    refine two_ (i := 2) (j := 3) (Ni := some 11) (Nj := some 12) #[true, true, true, false, false, false] #[true, true, false, true, false, false] rfl rfl rfl rfl (by kernel_rfl) (by decide) (by decide) (fun K hK => ?_) (fun K hK => ?_)
    · skip
      refine value_ (w1 := ?_) (v := ?_) (by rfl) rfl ?_ ?_
      rotate_left 2
      · go_simp
        constructor
        · rfl
        · rfl
      have hN2 : Blk (w40r.drew.alloc (.cells (setArr none64) 30)) (w40r.heap.size) 30 (setArr none64) := Blk.newN _ _ _ _ (by simp)
      have hg2 : w40r.heap.size ≤ w40r.heap.size := by first | exact hh.2.1.size | (have := hh.2.1.size; simp at this; omega)
      refine hK.out _ _ ⟨(below_alloc hh.1 _), (below_alloc hh.2.1 _), (hh.2.2.1.keep (below_alloc (Below.refl _ _) _)), (hh.2.2.2.1.keep (below_alloc (Below.refl _ _) _)), (hh.2.2.2.2.1.keep (below_alloc (Below.refl _ _) _)), (hh.2.2.2.2.2.keep (below_alloc (Below.refl _ _) _))⟩ (fun hH2 => ?_)
      clear hK K hh
      try clear hb
      have hh := hH2
      clear hH2
      refine norm_ (a' := ?_) ?_ ?_
      rotate_left
      · show Act.put _ (some 11) _ = _
        simp only [Act.put, sA, sB, sC, i64_w, i32_w]
        rfl
      refine one_ (i := 3) (N := some 12) #[true, true, true, true, false, false] rfl rfl (by kernel_rfl) (by decide) (fun K hK => ?_)
      refine value_ (w1 := ?_) (v := ?_) (by rfl) rfl ?_ ?_
      rotate_left 2
      · go_simp
        constructor
        · rfl
        · rfl
      have hN3 : Blk ((w40r.drew.alloc (.cells (setArr none64) 30)).alloc (.cells (setArr none64) 30)) (w40r.heap.size + 1) 30 (setArr none64) := Blk.newN _ _ _ _ (by simp)
      have hg3 : w40r.heap.size ≤ w40r.heap.size + 1 := by first | exact hh.2.1.size | (have := hh.2.1.size; simp at this; omega)
      have hne : w40r.heap.size ≠ w40r.heap.size + 1 := by have := hN2.lt; first | omega | (simp at this; omega)
      replace hN2 := hN2.alloc (.cells (setArr none64) 30)
      refine hK.out _ _ ⟨(below_alloc hh.1 _), (below_alloc hh.2.1 _), (hh.2.2.1.keep (below_alloc (Below.refl _ _) _)), (hh.2.2.2.1.keep (below_alloc (Below.refl _ _) _)), (hh.2.2.2.2.1.keep (below_alloc (Below.refl _ _) _)), (hh.2.2.2.2.2.keep (below_alloc (Below.refl _ _) _))⟩ (fun hH2 => ?_)
      clear hK K hh
      try clear hb
      have hh := hH2
      clear hH2
      refine norm_ (a' := ?_) ?_ ?_
      rotate_left
      · show Act.put _ (some 12) _ = _
        simp only [Act.put, sA, sB, sC, i64_w, i32_w]
        rfl
      exact norm_ (by simp only [putAll, Act.put, sA, sB, sC]) (hCont (w40r.heap.size, w40r.heap.size + 1) _ ⟨hh, hN2, hN3, hne, hg2, hg3⟩)
    · skip
      refine value_ (w1 := ?_) (v := ?_) (by rfl) rfl ?_ ?_
      rotate_left 2
      · go_simp
        constructor
        · rfl
        · rfl
      have hN3 : Blk (w40r.drew.alloc (.cells (setArr none64) 30)) (w40r.heap.size) 30 (setArr none64) := Blk.newN _ _ _ _ (by simp)
      have hg3 : w40r.heap.size ≤ w40r.heap.size := by first | exact hh.2.1.size | (have := hh.2.1.size; simp at this; omega)
      refine hK.out _ _ ⟨(below_alloc hh.1 _), (below_alloc hh.2.1 _), (hh.2.2.1.keep (below_alloc (Below.refl _ _) _)), (hh.2.2.2.1.keep (below_alloc (Below.refl _ _) _)), (hh.2.2.2.2.1.keep (below_alloc (Below.refl _ _) _)), (hh.2.2.2.2.2.keep (below_alloc (Below.refl _ _) _))⟩ (fun hH2 => ?_)
      clear hK K hh
      try clear hb
      have hh := hH2
      clear hH2
      refine norm_ (a' := ?_) ?_ ?_
      rotate_left
      · show Act.put _ (some 12) _ = _
        simp only [Act.put, sA, sB, sC, i64_w, i32_w]
        rfl
      refine one_ (i := 2) (N := some 11) #[true, true, true, true, false, false] rfl rfl (by kernel_rfl) (by decide) (fun K hK => ?_)
      refine value_ (w1 := ?_) (v := ?_) (by rfl) rfl ?_ ?_
      rotate_left 2
      · go_simp
        constructor
        · rfl
        · rfl
      have hN2 : Blk ((w40r.drew.alloc (.cells (setArr none64) 30)).alloc (.cells (setArr none64) 30)) (w40r.heap.size + 1) 30 (setArr none64) := Blk.newN _ _ _ _ (by simp)
      have hg2 : w40r.heap.size ≤ w40r.heap.size + 1 := by first | exact hh.2.1.size | (have := hh.2.1.size; simp at this; omega)
      have hne : w40r.heap.size ≠ w40r.heap.size + 1 := by have := hN3.lt; first | omega | (simp at this; omega)
      replace hN3 := hN3.alloc (.cells (setArr none64) 30)
      refine hK.out _ _ ⟨(below_alloc hh.1 _), (below_alloc hh.2.1 _), (hh.2.2.1.keep (below_alloc (Below.refl _ _) _)), (hh.2.2.2.1.keep (below_alloc (Below.refl _ _) _)), (hh.2.2.2.2.1.keep (below_alloc (Below.refl _ _) _)), (hh.2.2.2.2.2.keep (below_alloc (Below.refl _ _) _))⟩ (fun hH2 => ?_)
      clear hK K hh
      try clear hb
      have hh := hH2
      clear hH2
      refine norm_ (a' := ?_) ?_ ?_
      rotate_left
      · show Act.put _ (some 11) _ = _
        simp only [Act.put, sA, sB, sC, i64_w, i32_w]
        rfl
      exact norm_ (by simp only [putAll, Act.put, sA, sB, sC]) (hCont (w40r.heap.size + 1, w40r.heap.size) _ ⟨hh, hN2, hN3, Ne.symm hne, hg2, hg3⟩)
  rintro ⟨g11, g12⟩ w42 ⟨hS_, hNa, hNb, hne, hga, hgb⟩
  simp only at hNa hNb hne hga hgb
  have hh : (Below w.heap.size w w42 ∧ Below w40r.heap.size w40r w42 ∧ Blk w42 g0 24 #[.int .i64 a, .int .i64 m] ∧ Blk w42 g1 24 #[.int .i64 b, .int .i64 n] ∧ Blk w42 g9 30 (setArr sx) ∧ Blk w42 g10 30 (setArr sy)) := hS_
  refine norm_ (a' := ?_) ?_ ?_
  rotate_left
  · simp only [putAll, Act.put, sA, sB, sC]
    rfl
  refine one_ (i := 4) (N := none) #[true, true, true, true, true, false] rfl rfl (by kernel_rfl) (by decide) (fun K hK => ?_)
  rw [if_pos (by rfl)]
  refine wp_store_row 30 (.tmp 11) (.tmp 31) (by rfl) g11 (setArr sx) (by rfl) (by rfl) 30 (setArr none64) hNa.hd (by rw [setArr_size, Hx.out] <;> exact info30) (by rw [setArr_size, setArr_size, Hx.out, List.length_replicate]) (setArr_one _) ?_
  have hNa2 := hNa.row (setArr sx)
  have hNb2 := hNb.rowFar (Ne.symm hne) (setArr sx)
  refine hK.out _ _ ⟨(below_setRow hh.1 (Nat.le_trans hWs.out hga) (setArr sx)), (below_setRow hh.2.1 hga (setArr sx)), (hh.2.2.1.rowFar (show g0 ≠ g11 by have := LT_A0.out; omega) (setArr sx)), (hh.2.2.2.1.rowFar (show g1 ≠ g11 by have := LT_A1.out; omega) (setArr sx)), (hh.2.2.2.2.1.rowFar (show g9 ≠ g11 by have := LT_ZA.out; omega) (setArr sx)), (hh.2.2.2.2.2.rowFar (show g10 ≠ g11 by have := LT_ZB.out; omega) (setArr sx))⟩ (fun hH2 => ?_)
  clear hK K hh
  try clear hb
  have hh := hH2
  clear hH2
  refine last_ (i := 5) (N := none) #[true, true, true, true, true, true] rfl rfl (by kernel_rfl) (by decide) (fun K hK => ?_)
  rw [if_pos (by rfl)]
  refine wp_store_row 30 (.tmp 12) (.tmp 32) (by rfl) g12 (setArr sx) (by rfl) (by rfl) 30 (setArr none64) hNb2.hd (by rw [setArr_size, Hx.out] <;> exact info30) (by rw [setArr_size, setArr_size, Hx.out, List.length_replicate]) (setArr_one _) ?_
  refine hK.out _ _ ?_
  clear hK K
  refine done_ (by kernel_rfl) ?_
  have LTX : Aside0 (g0 < g11 ∧ g1 < g11 ∧ g9 < g11 ∧ g10 < g11 ∧ g0 < g12 ∧ g1 < g12 ∧ g9 < g12 ∧ g10 < g12) := ⟨by have := LT_A0.out; have := LT_A1.out; have := LT_ZA.out; have := LT_ZB.out; omega⟩
  have hga2 := Nat.le_trans hWs.out hga
  have hgb2 := Nat.le_trans hWs.out hgb
  replace HB := Aside0.mk (below_setRow hh.1 hgb2 (setArr sx))
  replace A0 := Aside0.mk (hh.2.2.1.rowFar (show g0 ≠ g12 by have := LT_A0.out; omega) (setArr sx))
  clear LT_A0
  replace A1 := Aside0.mk (hh.2.2.2.1.rowFar (show g1 ≠ g12 by have := LT_A1.out; omega) (setArr sx))
  clear LT_A1
  replace ZA := Aside0.mk (hh.2.2.2.2.1.rowFar (show g9 ≠ g12 by have := LT_ZA.out; omega) (setArr sx))
  clear LT_ZA
  replace ZB := Aside0.mk (hh.2.2.2.2.2.rowFar (show g10 ≠ g12 by have := LT_ZB.out; omega) (setArr sx))
  clear LT_ZB
  have ZC := Aside0.mk (hNa2.rowFar hne (setArr sx))
  have ZD := Aside0.mk (hNb2.row (setArr sx))
  have NE_ZC_ZD := Aside0.mk hne
  have GE_ZC := Aside0.mk hga2
  have GE_ZD := Aside0.mk hgb2
  clear hh hS_ hNa hNb hNa2 hNb2 hne hga hgb hga2 hgb2 hWs
  generalize (w42.setRow g11 (setArr sx)).setRow g12 (setArr sx) = w42r at *
  clear HS
  replace ZC : Aside0 (Blk w42r g11 30 (setArr (upS (fun j => sx.getD j false && sy.getD j false) sx 0))) := ⟨by rw [upS_zero _ _ Hx.out]; exact ZC.out⟩
  replace ZD : Aside0 (Blk w42r g12 30 (setArr (upS (fun j => sx.getD j false && !sy.getD j false) sx 0))) := ⟨by rw [upS_zero _ _ Hx.out]; exact ZD.out⟩
  go_wp2_with fail
  go_loopg [13] 64 (fun kq v wz => ∃ i : Nat, i + kq = 64 ∧ v = .int .i64 (i : Int) ∧ Aside0 (Below w.heap.size w wz) ∧ Aside0 (Blk wz g0 24 #[.int .i64 a, .int .i64 m]) ∧ Aside0 (Blk wz g1 24 #[.int .i64 b, .int .i64 n]) ∧ Aside0 (Blk wz g9 30 (setArr sx)) ∧ Aside0 (Blk wz g10 30 (setArr sy)) ∧ Aside0 (Blk wz g11 30 (setArr (upS (fun j => sx.getD j false && sy.getD j false) sx i))) ∧ Aside0 (Blk wz g12 30 (setArr (upS (fun j => sx.getD j false && !sy.getD j false) sx i))))
  case atStart => exact ⟨0, by omega, rfl, HB, A0, A1, ZA, ZB, ZC, ZD⟩
  case round =>
    clear HB A0 A1 ZA ZB ZC ZD
    obtain ⟨i, hi, rfl, HB, A0, A1, ZA, ZB, ZC, ZD⟩ := hrel
    by_cases hlt : i < 64
    · have hlt' : (i : Int) < 64 := by omega
      obtain ⟨kk, rfl⟩ : ∃ z, gk = z + 1 := ⟨gk - 1, by omega⟩
      have hst1 := Aside0.mk (upS_step (fun j => sx.getD j false && sy.getD j false) sx i hlt)
      have hst2 := Aside0.mk (upS_step (fun j => sx.getD j false && !sy.getD j false) sx i hlt)
      have s0 := ZA.out.cell (setArr_get sx i (by rw [Hx.out]; omega))
      have s1 := ZB.out.cell (setArr_get sy i (by rw [Hy.out]; omega))
      have s2 := ZC.out.cell (setArr_get _ i (by rw [upS_length]; omega))
      have sf := ZC.out.frozen i
      have s3 := ZD.out.cell (setArr_get _ i (by rw [upS_length]; omega))
      have sf3 := ZD.out.frozen i
      generalize (upS (fun j => sx.getD j false && sy.getD j false) sx i).getD i false = old1 at *
      generalize (upS (fun j => sx.getD j false && !sy.getD j false) sx i).getD i false = old2 at *
      have hpq : ∃ p q, p = sx.getD i false ∧ q = sy.getD i false := ⟨_, _, rfl, rfl⟩
      obtain ⟨pb, qb, hp, hq⟩ := hpq
      have hst1b : Aside0 ((upS (fun j => sx.getD j false && sy.getD j false) sx i).set i (pb && qb) = upS (fun j => sx.getD j false && sy.getD j false) sx (i + 1)) := ⟨by rw [hp, hq]; exact hst1.out⟩
      have hst2b : Aside0 ((upS (fun j => sx.getD j false && !sy.getD j false) sx i).set i (pb && !qb) = upS (fun j => sx.getD j false && !sy.getD j false) sx (i + 1)) := ⟨by rw [hp, hq]; exact hst2.out⟩
      rw [← hp] at s0
      rw [← hq] at s1
      clear hp hq hst1 hst2
      have hn1 : g9 ≠ g11 := by have := LTX.out; omega
      have hn2 : g10 ≠ g11 := by have := LTX.out; omega
      have hn3 : g12 ≠ g11 := NE_ZC_ZD.out.symm
      cases pb
      · skip
        go_wp2_with fail
        have Z1 := ZC.out.set_ i (.bool false)
        have Z2 := ZD.out.set_ i (.bool false)
        rw [setArr_set] at Z1 Z2
        have h1 := hst1b.out
        have h2 := hst2b.out
        simp only [Bool.and_true, Bool.true_and, Bool.and_false, Bool.false_and, Bool.not_true, Bool.not_false] at h1 h2
        rw [h1] at Z1
        rw [h2] at Z2
        have HBn := Aside0.mk ((HB.out.setCell (p := ⟨g11, i, none⟩) GE_ZC.out (.bool false)).setCell (p := ⟨g12, i, none⟩) GE_ZD.out (.bool false))
        have A0n := Aside0.mk ((A0.out.far (p := ⟨g11, i, none⟩) (by have := LTX.out; show g0 ≠ g11; omega) (.bool false)).far (p := ⟨g12, i, none⟩) (by have := LTX.out; show g0 ≠ g12; omega) (.bool false))
        have A1n := Aside0.mk ((A1.out.far (p := ⟨g11, i, none⟩) (by have := LTX.out; show g1 ≠ g11; omega) (.bool false)).far (p := ⟨g12, i, none⟩) (by have := LTX.out; show g1 ≠ g12; omega) (.bool false))
        have ZAn := Aside0.mk ((ZA.out.far (p := ⟨g11, i, none⟩) (by have := LTX.out; show g9 ≠ g11; omega) (.bool false)).far (p := ⟨g12, i, none⟩) (by have := LTX.out; show g9 ≠ g12; omega) (.bool false))
        have ZBn := Aside0.mk ((ZB.out.far (p := ⟨g11, i, none⟩) (by have := LTX.out; show g10 ≠ g11; omega) (.bool false)).far (p := ⟨g12, i, none⟩) (by have := LTX.out; show g10 ≠ g12; omega) (.bool false))
        have ZCn := Aside0.mk (Z1.far (p := ⟨g12, i, none⟩) (by show g11 ≠ g12; exact NE_ZC_ZD.out) (.bool false))
        have Z2' := ((ZD.out.far (p := ⟨g11, i, none⟩) (by show g12 ≠ g11; exact NE_ZC_ZD.out.symm) (.bool false)).set_ i (.bool false))
        rw [setArr_set, h2] at Z2'
        have ZDn := Aside0.mk Z2'
        clear h1 h2 Z1 Z2 Z2' HB A0 A1 ZA ZB ZC ZD s0 s1 s2 sf s3 sf3
        go_roundg kk
        case measure => omega
        case rel => exact ⟨i + 1, by omega, by go_num, HBn, A0n, A1n, ZAn, ZBn, ZCn, ZDn⟩
      · cases qb
        · skip
          go_wp2_with fail
          have Z1 := ZC.out.set_ i (.bool false)
          have Z2 := ZD.out.set_ i (.bool true)
          rw [setArr_set] at Z1 Z2
          have h1 := hst1b.out
          have h2 := hst2b.out
          simp only [Bool.and_true, Bool.true_and, Bool.and_false, Bool.false_and, Bool.not_true, Bool.not_false] at h1 h2
          rw [h1] at Z1
          rw [h2] at Z2
          have HBn := Aside0.mk ((HB.out.setCell (p := ⟨g11, i, none⟩) GE_ZC.out (.bool false)).setCell (p := ⟨g12, i, none⟩) GE_ZD.out (.bool true))
          have A0n := Aside0.mk ((A0.out.far (p := ⟨g11, i, none⟩) (by have := LTX.out; show g0 ≠ g11; omega) (.bool false)).far (p := ⟨g12, i, none⟩) (by have := LTX.out; show g0 ≠ g12; omega) (.bool true))
          have A1n := Aside0.mk ((A1.out.far (p := ⟨g11, i, none⟩) (by have := LTX.out; show g1 ≠ g11; omega) (.bool false)).far (p := ⟨g12, i, none⟩) (by have := LTX.out; show g1 ≠ g12; omega) (.bool true))
          have ZAn := Aside0.mk ((ZA.out.far (p := ⟨g11, i, none⟩) (by have := LTX.out; show g9 ≠ g11; omega) (.bool false)).far (p := ⟨g12, i, none⟩) (by have := LTX.out; show g9 ≠ g12; omega) (.bool true))
          have ZBn := Aside0.mk ((ZB.out.far (p := ⟨g11, i, none⟩) (by have := LTX.out; show g10 ≠ g11; omega) (.bool false)).far (p := ⟨g12, i, none⟩) (by have := LTX.out; show g10 ≠ g12; omega) (.bool true))
          have ZCn := Aside0.mk (Z1.far (p := ⟨g12, i, none⟩) (by show g11 ≠ g12; exact NE_ZC_ZD.out) (.bool true))
          have Z2' := ((ZD.out.far (p := ⟨g11, i, none⟩) (by show g12 ≠ g11; exact NE_ZC_ZD.out.symm) (.bool false)).set_ i (.bool true))
          rw [setArr_set, h2] at Z2'
          have ZDn := Aside0.mk Z2'
          clear h1 h2 Z1 Z2 Z2' HB A0 A1 ZA ZB ZC ZD s0 s1 s2 sf s3 sf3
          go_roundg kk
          case measure => omega
          case rel => exact ⟨i + 1, by omega, by go_num, HBn, A0n, A1n, ZAn, ZBn, ZCn, ZDn⟩
        · skip
          go_wp2_with fail
          have Z1 := ZC.out.set_ i (.bool true)
          have Z2 := ZD.out.set_ i (.bool false)
          rw [setArr_set] at Z1 Z2
          have h1 := hst1b.out
          have h2 := hst2b.out
          simp only [Bool.and_true, Bool.true_and, Bool.and_false, Bool.false_and, Bool.not_true, Bool.not_false] at h1 h2
          rw [h1] at Z1
          rw [h2] at Z2
          have HBn := Aside0.mk ((HB.out.setCell (p := ⟨g11, i, none⟩) GE_ZC.out (.bool true)).setCell (p := ⟨g12, i, none⟩) GE_ZD.out (.bool false))
          have A0n := Aside0.mk ((A0.out.far (p := ⟨g11, i, none⟩) (by have := LTX.out; show g0 ≠ g11; omega) (.bool true)).far (p := ⟨g12, i, none⟩) (by have := LTX.out; show g0 ≠ g12; omega) (.bool false))
          have A1n := Aside0.mk ((A1.out.far (p := ⟨g11, i, none⟩) (by have := LTX.out; show g1 ≠ g11; omega) (.bool true)).far (p := ⟨g12, i, none⟩) (by have := LTX.out; show g1 ≠ g12; omega) (.bool false))
          have ZAn := Aside0.mk ((ZA.out.far (p := ⟨g11, i, none⟩) (by have := LTX.out; show g9 ≠ g11; omega) (.bool true)).far (p := ⟨g12, i, none⟩) (by have := LTX.out; show g9 ≠ g12; omega) (.bool false))
          have ZBn := Aside0.mk ((ZB.out.far (p := ⟨g11, i, none⟩) (by have := LTX.out; show g10 ≠ g11; omega) (.bool true)).far (p := ⟨g12, i, none⟩) (by have := LTX.out; show g10 ≠ g12; omega) (.bool false))
          have ZCn := Aside0.mk (Z1.far (p := ⟨g12, i, none⟩) (by show g11 ≠ g12; exact NE_ZC_ZD.out) (.bool false))
          have Z2' := ((ZD.out.far (p := ⟨g11, i, none⟩) (by show g12 ≠ g11; exact NE_ZC_ZD.out.symm) (.bool true)).set_ i (.bool false))
          rw [setArr_set, h2] at Z2'
          have ZDn := Aside0.mk Z2'
          clear h1 h2 Z1 Z2 Z2' HB A0 A1 ZA ZB ZC ZD s0 s1 s2 sf s3 sf3
          go_roundg kk
          case measure => omega
          case rel => exact ⟨i + 1, by omega, by go_num, HBn, A0n, A1n, ZAn, ZBn, ZCn, ZDn⟩
    · have hi64 : i = 64 := by omega
      have hlt' : ¬ (i : Int) < 64 := by omega
      rw [hi64, upS_all] at ZC ZD
      obtain ⟨u, hu⟩ : ∃ u, u = andS sx sy := ⟨_, rfl⟩
      obtain ⟨v, hv⟩ : ∃ v, v = lessS sx sy := ⟨_, rfl⟩
      replace ZC : Aside0 (Blk wr g11 30 (setArr u)) := ⟨by rw [hu]; exact ZC.out⟩
      replace ZD : Aside0 (Blk wr g12 30 (setArr v)) := ⟨by rw [hv]; exact ZD.out⟩
      have Hul : Aside0 (u.length = 64) := ⟨by rw [hu]; exact andS_length _ _⟩
      have Hvl : Aside0 (v.length = 64) := ⟨by rw [hv]; exact lessS_length _ _⟩
      have Huc : Aside0 (cntS u 64 = cb) := ⟨by rw [hu, hsx.out, hsy.out]; exact HT.out.cnt⟩
      have Hus : Aside0 (vm = true → spansOf u = [⟨p, q⟩]) := ⟨by rw [hu, hsx.out, hsy.out]; exact HT.out.sp⟩
      have Hvs : Aside0 (spansOf v = lessV a m b n) := ⟨by rw [hv, hsx.out, hsy.out]; exact less_spans a m b n⟩
      clear hi64 hu hv
      clear ZB
      have X0 := Aside0.mk (A0.out.cell (i := 0) (v := .int .i64 a) rfl)
      have X1 := Aside0.mk (A0.out.cell (i := 1) (v := .int .i64 m) rfl)
      have Y0 := Aside0.mk (A1.out.cell (i := 0) (v := .int .i64 b) rfl)
      have Y1 := Aside0.mk (A1.out.cell (i := 1) (v := .int .i64 n) rfl)
      go_wp2_with fail
      as_aux_lemma =>
      refine start_ (n := 6) (S := fun w' => Below w.heap.size w w' ∧ Blk w' g0 24 #[.int .i64 a, .int .i64 m] ∧ Blk w' g1 24 #[.int .i64 b, .int .i64 n] ∧ Blk w' g9 30 (setArr sx) ∧ Blk w' g11 30 (setArr u) ∧ Blk w' g12 30 (setArr v) ∧ w'.cell? ⟨g0, 0, none⟩ = some (.int .i64 a) ∧ w'.cell? ⟨g0, 1, none⟩ = some (.int .i64 m) ∧ w'.cell? ⟨g1, 0, none⟩ = some (.int .i64 b) ∧ w'.cell? ⟨g1, 1, none⟩ = some (.int .i64 n)) (ds := []) #[false, false, false, false, false, false] (by kernel_rfl) rfl rfl ⟨(below_drew1 HB.out), (A0.out.keep (below_drew1 (Below.refl _ _))), (A1.out.keep (below_drew1 (Below.refl _ _))), (ZA.out.keep (below_drew1 (Below.refl _ _))), (ZC.out.keep (below_drew1 (Below.refl _ _))), (ZD.out.keep (below_drew1 (Below.refl _ _))), (keep (below_drew1 (Below.refl _ _)) X0.out), (keep (below_drew1 (Below.refl _ _)) X1.out), (keep (below_drew1 (Below.refl _ _)) Y0.out), (keep (below_drew1 (Below.refl _ _)) Y1.out)⟩ (fun hh => ?_)
      refine take_ (i := 0) (N := some 58) (v := ?_) (a' := ?_) #[true, false, false, false, false, false] rfl rfl (by kernel_rfl) (fun _ _ _ h => h) (Or.inl ⟨by rfl, ?_⟩) hh ?_ ?_
      rotate_left
      · rintro w' ⟨s0, s1, s2, s3, s4, s5, s6, s7, s8, s9⟩
        go_simp
        with_reducible rfl
      rotate_left
      · simp only [Act.put, sA, sB, sC, i64_w, i32_w]
        rfl
      refine take_ (i := 2) (N := some 60) (v := ?_) (a' := ?_) #[true, false, true, false, false, false] rfl rfl (by kernel_rfl) (fun _ _ _ h => h) (Or.inl ⟨by rfl, ?_⟩) hh ?_ ?_
      rotate_left
      · rintro w' ⟨s0, s1, s2, s3, s4, s5, s6, s7, s8, s9⟩
        go_simp
        with_reducible rfl
      rotate_left
      · simp only [Act.put, sA, sB, sC, i64_w, i32_w]
        rfl
      refine one_ (i := 1) (N := some 59) #[true, true, true, false, false, false] rfl rfl (by kernel_rfl) (by decide) (fun K hK => ?_)
      refine goes_ Try.func15 (by kernel_rfl) rfl #[.agg #[.int .i64 a, .int .i64 m]] (by rfl) rfl rfl (by simp only [List.map_toArray, List.map_cons, List.map_nil]; rfl) ?_
      with_reducible refine (emulsionref1_Whole.calls a m va _ HT.out.wa).mono ?_
      rintro e w50 ⟨rfl, hb⟩
      refine ⟨_, rfl, ?_⟩
      refine hK.out _ _ ⟨(below_step hh.1 hb), (hh.2.1.keep hb), (hh.2.2.1.keep hb), (hh.2.2.2.1.keep hb), (hh.2.2.2.2.1.keep hb), (hh.2.2.2.2.2.1.keep hb), (keep hb hh.2.2.2.2.2.2.1), (keep hb hh.2.2.2.2.2.2.2.1), (keep hb hh.2.2.2.2.2.2.2.2.1), (keep hb hh.2.2.2.2.2.2.2.2.2)⟩ (fun hH2 => ?_)
      clear hK K hh
      try clear hb
      have hh := hH2
      clear hH2
      refine norm_ (a' := ?_) ?_ ?_
      rotate_left
      · show Act.put _ (some 59) _ = _
        simp only [Act.put, sA, sB, sC, i64_w, i32_w]
        rfl
      refine one_ (i := 3) (N := some 61) #[true, true, true, true, false, false] rfl rfl (by kernel_rfl) (by decide) (fun K hK => ?_)
      refine goes_ Try.func15 (by kernel_rfl) rfl #[.agg #[.int .i64 b, .int .i64 n]] (by rfl) rfl rfl (by simp only [List.map_toArray, List.map_cons, List.map_nil]; rfl) ?_
      with_reducible refine (emulsionref1_Whole.calls b n vb _ HT.out.wb).mono ?_
      rintro e w51 ⟨rfl, hb⟩
      refine ⟨_, rfl, ?_⟩
      refine hK.out _ _ ⟨(below_step hh.1 hb), (hh.2.1.keep hb), (hh.2.2.1.keep hb), (hh.2.2.2.1.keep hb), (hh.2.2.2.2.1.keep hb), (hh.2.2.2.2.2.1.keep hb), (keep hb hh.2.2.2.2.2.2.1), (keep hb hh.2.2.2.2.2.2.2.1), (keep hb hh.2.2.2.2.2.2.2.2.1), (keep hb hh.2.2.2.2.2.2.2.2.2)⟩ (fun hH2 => ?_)
      clear hK K hh
      try clear hb
      have hh := hH2
      clear hH2
      refine norm_ (a' := ?_) ?_ ?_
      rotate_left
      · show Act.put _ (some 61) _ = _
        simp only [Act.put, sA, sB, sC, i64_w, i32_w]
        rfl
      refine pure_ (i := 4) (N := some 14) (v := ?_) (a' := ?_) #[true, true, true, true, true, false] rfl rfl (by kernel_rfl) (fun _ _ _ h => h) (Or.inl ⟨by rfl, ?_⟩) ?_ ?_
      rotate_left
      · intro w'
        go_simp
        with_reducible rfl
      rotate_left
      · simp only [Act.put, sA, sB, sC, i64_w, i32_w]
        rfl
      refine pure_ (i := 5) (N := some 15) (v := ?_) (a' := ?_) #[true, true, true, true, true, true] rfl rfl (by kernel_rfl) (fun _ _ _ h => h) (Or.inl ⟨by rfl, ?_⟩) ?_ ?_
      rotate_left
      · intro w'
        go_simp
        with_reducible rfl
      rotate_left
      · simp only [Act.put, sA, sB, sC, i64_w, i32_w]
        rfl
      refine done_ (by kernel_rfl) ?_
      replace HB := Aside0.mk hh.1
      replace A0 := Aside0.mk hh.2.1
      replace A1 := Aside0.mk hh.2.2.1
      replace ZA := Aside0.mk hh.2.2.2.1
      replace ZC := Aside0.mk hh.2.2.2.2.1
      replace ZD := Aside0.mk hh.2.2.2.2.2.1
      replace X0 := Aside0.mk hh.2.2.2.2.2.2.1
      replace X1 := Aside0.mk hh.2.2.2.2.2.2.2.1
      replace Y0 := Aside0.mk hh.2.2.2.2.2.2.2.2.1
      replace Y1 := Aside0.mk hh.2.2.2.2.2.2.2.2.2
      clear hh
      clear X0 X1 Y0 Y1
      have x0 := A0.out.cell (i := 0) (v := .int .i64 a) rfl
      have x1 := A0.out.cell (i := 1) (v := .int .i64 m) rfl
      have y0 := A1.out.cell (i := 0) (v := .int .i64 b) rfl
      have y1 := A1.out.cell (i := 1) (v := .int .i64 n) rfl
      go_wp2_with fail
      refine (span_Meet.calls 1 a m b n p q vm _ HT.out.meet).mono ?_
      rintro e w2 ⟨rfl, hB⟩
      replace HB := Aside0.mk (below_step HB.out hB)
      replace A0 := Aside0.mk (A0.out.keep hB)
      replace A1 := Aside0.mk (A1.out.keep hB)
      replace ZA := Aside0.mk (ZA.out.keep hB)
      replace ZC := Aside0.mk (ZC.out.keep hB)
      replace ZD := Aside0.mk (ZD.out.keep hB)
      clear hB
      clear x0 x1 y0 y1
      go_upto_region 12 with fail
      refine code_abs (fun WQ => Below w.heap.size w WQ ∧ Blk WQ g0 24 #[.int .i64 a, .int .i64 m] ∧ Blk WQ g1 24 #[.int .i64 b, .int .i64 n] ∧ Blk WQ g9 30 (setArr sx) ∧ Blk WQ g11 30 (setArr u) ∧ Blk WQ g12 30 (setArr v) ∧ Blk WQ w2.heap.size 24 #[.int .i64 p, .int .i64 q]) ⟨below_step HB.out (by repeat (first | exact Below.refl _ _ | apply below_alloc | refine Below.setCell ?_ (Nat.le_refl _) _ | refine Below.setCell ?_ (by simp) _)), A0.out.keep (by repeat (first | exact Below.refl _ _ | apply below_alloc | refine Below.setCell ?_ (Nat.le_refl _) _ | refine Below.setCell ?_ (by simp) _)), A1.out.keep (by repeat (first | exact Below.refl _ _ | apply below_alloc | refine Below.setCell ?_ (Nat.le_refl _) _ | refine Below.setCell ?_ (by simp) _)), ZA.out.keep (by repeat (first | exact Below.refl _ _ | apply below_alloc | refine Below.setCell ?_ (Nat.le_refl _) _ | refine Below.setCell ?_ (by simp) _)), ZC.out.keep (by repeat (first | exact Below.refl _ _ | apply below_alloc | refine Below.setCell ?_ (Nat.le_refl _) _ | refine Below.setCell ?_ (by simp) _)), ZD.out.keep (by repeat (first | exact Below.refl _ _ | apply below_alloc | refine Below.setCell ?_ (Nat.le_refl _) _ | refine Below.setCell ?_ (by simp) _)), Blk.new _ _ _⟩ ?_
      rintro w3 ⟨h_HB, h_A0, h_A1, h_ZA, h_ZC, h_ZD, h_M16⟩
      replace HB := Aside0.mk h_HB
      replace A0 := Aside0.mk h_A0
      replace A1 := Aside0.mk h_A1
      replace ZA := Aside0.mk h_ZA
      replace ZC := Aside0.mk h_ZC
      replace ZD := Aside0.mk h_ZD
      have M16 := Aside0.mk h_M16
      clear h_HB h_A0 h_A1 h_ZA h_ZC h_ZD h_M16
      generalize w2.heap.size = g16 at *
      go_cut [18] (fun v18 wc => v18 = .bool vt ∧ Aside0 (Below w.heap.size w wc) ∧ Aside0 (Blk wc g0 24 #[.int .i64 a, .int .i64 m]) ∧ Aside0 (Blk wc g1 24 #[.int .i64 b, .int .i64 n]) ∧ Aside0 (Blk wc g9 30 (setArr sx)) ∧ Aside0 (Blk wc g11 30 (setArr u)) ∧ Aside0 (Blk wc g12 30 (setArr v)) ∧ Aside0 (Blk wc g16 24 #[.int .i64 p, .int .i64 q]))
      case first =>
        as_aux_lemma =>
        have x0 := A0.out.cell (i := 0) (v := .int .i64 a) rfl
        have x1 := A0.out.cell (i := 1) (v := .int .i64 m) rfl
        have y0 := A1.out.cell (i := 0) (v := .int .i64 b) rfl
        have y1 := A1.out.cell (i := 1) (v := .int .i64 n) rfl
        cases va with
        | false =>
          have hvt : vt = false := by cases vt; rfl; exact absurd (HT.out.vtb rfl).1 (by decide)
          subst hvt
          go_wp2_with fail
          go_meet
          case rel => exact ⟨rfl, HB, A0, A1, ZA, ZC, ZD, M16⟩
        | true =>
          cases vb with
          | false =>
            have hvt : vt = false := by cases vt; rfl; exact absurd (HT.out.vtb rfl).2 (by decide)
            subst hvt
            go_wp2_with fail
            go_meet
            case rel => exact ⟨rfl, HB, A0, A1, ZA, ZC, ZD, M16⟩
          | true =>
            obtain ⟨_, b0, b1, b2, b3⟩ := HT.out.a1 rfl
            obtain ⟨b4, b5, b6, b7⟩ := HT.out.b1 rfl
            have hts := HT.out.ts rfl rfl
            rcases Decidable.em (a ≤ b + n) with h1 | h1
            · rcases Decidable.em (b ≤ a + m) with h2 | h2
              · rw [decide_eq_true ⟨h1, h2⟩] at hts
                subst hts
                go_wp2_with fail
                go_meet
                case rel => exact ⟨rfl, HB, A0, A1, ZA, ZC, ZD, M16⟩
              · rw [decide_eq_false (fun h => h2 h.2)] at hts
                subst hts
                go_wp2_with fail
                go_meet
                case rel => exact ⟨rfl, HB, A0, A1, ZA, ZC, ZD, M16⟩
            · rw [decide_eq_false (fun h => h1 h.1)] at hts
              subst hts
              go_wp2_with fail
              go_meet
              case rel => exact ⟨rfl, HB, A0, A1, ZA, ZC, ZD, M16⟩
      case rest =>
        clear HB A0 A1 ZA ZC ZD M16
        obtain ⟨rfl, HB, A0, A1, ZA, ZC, ZD, M16⟩ := hcut
        as_aux_lemma =>
        have x0 := A0.out.cell (i := 0) (v := .int .i64 a) rfl
        have x1 := A0.out.cell (i := 1) (v := .int .i64 m) rfl
        have y0 := A1.out.cell (i := 0) (v := .int .i64 b) rfl
        have y1 := A1.out.cell (i := 1) (v := .int .i64 n) rfl
        go_wp2_with fail
        refine (span_Join.calls a m b n j1 j2 vt _ HT.out.join).mono ?_
        rintro e w4 ⟨rfl, hB⟩
        replace HB := Aside0.mk (below_step HB.out hB)
        replace A0 := Aside0.mk (A0.out.keep hB)
        replace A1 := Aside0.mk (A1.out.keep hB)
        replace ZA := Aside0.mk (ZA.out.keep hB)
        replace ZC := Aside0.mk (ZC.out.keep hB)
        replace ZD := Aside0.mk (ZD.out.keep hB)
        replace M16 := Aside0.mk (M16.out.keep hB)
        clear hB
        clear x0 x1 y0 y1
        go_upto_region 14 with fail
        refine code_abs (fun WQ => Below w.heap.size w WQ ∧ Blk WQ g0 24 #[.int .i64 a, .int .i64 m] ∧ Blk WQ g1 24 #[.int .i64 b, .int .i64 n] ∧ Blk WQ g9 30 (setArr sx) ∧ Blk WQ g11 30 (setArr u) ∧ Blk WQ g12 30 (setArr v) ∧ Blk WQ g16 24 #[.int .i64 p, .int .i64 q] ∧ Blk WQ w4.heap.size 24 #[.int .i64 j1, .int .i64 j2]) ⟨below_step HB.out (by repeat (first | exact Below.refl _ _ | apply below_alloc | refine Below.setCell ?_ (Nat.le_refl _) _ | refine Below.setCell ?_ (by simp) _)), A0.out.keep (by repeat (first | exact Below.refl _ _ | apply below_alloc | refine Below.setCell ?_ (Nat.le_refl _) _ | refine Below.setCell ?_ (by simp) _)), A1.out.keep (by repeat (first | exact Below.refl _ _ | apply below_alloc | refine Below.setCell ?_ (Nat.le_refl _) _ | refine Below.setCell ?_ (by simp) _)), ZA.out.keep (by repeat (first | exact Below.refl _ _ | apply below_alloc | refine Below.setCell ?_ (Nat.le_refl _) _ | refine Below.setCell ?_ (by simp) _)), ZC.out.keep (by repeat (first | exact Below.refl _ _ | apply below_alloc | refine Below.setCell ?_ (Nat.le_refl _) _ | refine Below.setCell ?_ (by simp) _)), ZD.out.keep (by repeat (first | exact Below.refl _ _ | apply below_alloc | refine Below.setCell ?_ (Nat.le_refl _) _ | refine Below.setCell ?_ (by simp) _)), M16.out.keep (by repeat (first | exact Below.refl _ _ | apply below_alloc | refine Below.setCell ?_ (Nat.le_refl _) _ | refine Below.setCell ?_ (by simp) _)), Blk.new _ _ _⟩ ?_
        rintro w5 ⟨h_HB, h_A0, h_A1, h_ZA, h_ZC, h_ZD, h_M16, h_J19⟩
        replace HB := Aside0.mk h_HB
        replace A0 := Aside0.mk h_A0
        replace A1 := Aside0.mk h_A1
        replace ZA := Aside0.mk h_ZA
        replace ZC := Aside0.mk h_ZC
        replace ZD := Aside0.mk h_ZD
        replace M16 := Aside0.mk h_M16
        have J19 := Aside0.mk h_J19
        clear h_HB h_A0 h_A1 h_ZA h_ZC h_ZD h_M16 h_J19
        generalize w4.heap.size = g19 at *
        have HK_new := Aside0.mk (KeptAt.new w5 w.heap.size HB.out.size)
        have GE_HK : Aside0 (w.heap.size ≤ w5.heap.size) := ⟨HB.out.size⟩
        replace HB := Aside0.mk (below_alloc HB.out (.cells (bookC (.slice none 0 0) (.slice none 0 0) (.slice none 0 0) (.slice none 0 0) (.slice none 0 0) (.slice none 0 0)) 47))
        replace A0 := Aside0.mk (A0.out.keep (below_alloc (Below.refl _ _) (.cells (bookC (.slice none 0 0) (.slice none 0 0) (.slice none 0 0) (.slice none 0 0) (.slice none 0 0) (.slice none 0 0)) 47)))
        replace A1 := Aside0.mk (A1.out.keep (below_alloc (Below.refl _ _) (.cells (bookC (.slice none 0 0) (.slice none 0 0) (.slice none 0 0) (.slice none 0 0) (.slice none 0 0) (.slice none 0 0)) 47)))
        replace ZA := Aside0.mk (ZA.out.keep (below_alloc (Below.refl _ _) (.cells (bookC (.slice none 0 0) (.slice none 0 0) (.slice none 0 0) (.slice none 0 0) (.slice none 0 0) (.slice none 0 0)) 47)))
        replace ZC := Aside0.mk (ZC.out.keep (below_alloc (Below.refl _ _) (.cells (bookC (.slice none 0 0) (.slice none 0 0) (.slice none 0 0) (.slice none 0 0) (.slice none 0 0) (.slice none 0 0)) 47)))
        replace ZD := Aside0.mk (ZD.out.keep (below_alloc (Below.refl _ _) (.cells (bookC (.slice none 0 0) (.slice none 0 0) (.slice none 0 0) (.slice none 0 0) (.slice none 0 0) (.slice none 0 0)) 47)))
        replace M16 := Aside0.mk (M16.out.keep (below_alloc (Below.refl _ _) (.cells (bookC (.slice none 0 0) (.slice none 0 0) (.slice none 0 0) (.slice none 0 0) (.slice none 0 0) (.slice none 0 0)) 47)))
        replace J19 := Aside0.mk (J19.out.keep (below_alloc (Below.refl _ _) (.cells (bookC (.slice none 0 0) (.slice none 0 0) (.slice none 0 0) (.slice none 0 0) (.slice none 0 0) (.slice none 0 0)) 47)))
        go_wp2_with fail
        refine code_abs (fun WQ => Below w.heap.size w WQ ∧ Blk WQ g0 24 #[.int .i64 a, .int .i64 m] ∧ Blk WQ g1 24 #[.int .i64 b, .int .i64 n] ∧ Blk WQ g9 30 (setArr sx) ∧ Blk WQ g11 30 (setArr u) ∧ Blk WQ g12 30 (setArr v) ∧ Blk WQ g16 24 #[.int .i64 p, .int .i64 q] ∧ Blk WQ g19 24 #[.int .i64 j1, .int .i64 j2] ∧ KeptAt WQ w.heap.size w5.heap.size (fun k => WQ.heap.size ≤ k) ([]) ([]) ([])) ⟨HB.out, A0.out, A1.out, ZA.out, ZC.out, ZD.out, M16.out, J19.out, HK_new.out.top⟩ ?_
        rintro w6 ⟨h_HB, h_A0, h_A1, h_ZA, h_ZC, h_ZD, h_M16, h_J19, h_HK⟩
        replace HB := Aside0.mk h_HB
        replace A0 := Aside0.mk h_A0
        replace A1 := Aside0.mk h_A1
        replace ZA := Aside0.mk h_ZA
        replace ZC := Aside0.mk h_ZC
        replace ZD := Aside0.mk h_ZD
        replace M16 := Aside0.mk h_M16
        replace J19 := Aside0.mk h_J19
        have HK := Aside0.mk h_HK
        clear h_HB h_A0 h_A1 h_ZA h_ZC h_ZD h_M16 h_J19 h_HK
        clear HK_new
        generalize w5.heap.size = gB at *
        have X0 := Aside0.mk (A0.out.cell (i := 0) (v := .int .i64 a) rfl)
        have X1 := Aside0.mk (A0.out.cell (i := 1) (v := .int .i64 m) rfl)
        have Y0 := Aside0.mk (A1.out.cell (i := 0) (v := .int .i64 b) rfl)
        have Y1 := Aside0.mk (A1.out.cell (i := 1) (v := .int .i64 n) rfl)
        have HS : Aside0 (Below w6.heap.size w6 w6) := ⟨Below.refl _ _⟩
        as_aux_lemma =>
        refine start_ (n := 8) (S := fun w' => Below w.heap.size w w' ∧ Blk w' g0 24 #[.int .i64 a, .int .i64 m] ∧ Blk w' g1 24 #[.int .i64 b, .int .i64 n] ∧ Blk w' g9 30 (setArr sx) ∧ Blk w' g11 30 (setArr u) ∧ Blk w' g12 30 (setArr v) ∧ Blk w' g16 24 #[.int .i64 p, .int .i64 q] ∧ Blk w' g19 24 #[.int .i64 j1, .int .i64 j2] ∧ KeptAt w' w.heap.size gB (fun k => w6.heap.size ≤ k) ([]) ([]) ([]) ∧ w'.cell? ⟨g0, 0, none⟩ = some (.int .i64 a) ∧ w'.cell? ⟨g0, 1, none⟩ = some (.int .i64 m) ∧ w'.cell? ⟨g1, 0, none⟩ = some (.int .i64 b) ∧ w'.cell? ⟨g1, 1, none⟩ = some (.int .i64 n) ∧ Below w6.heap.size w6 w') (ds := []) #[false, false, false, false, false, false, false, false] (by kernel_rfl) rfl rfl ⟨(below_drew1 HB.out), (A0.out.keep (below_drew1 (Below.refl _ _))), (A1.out.keep (below_drew1 (Below.refl _ _))), (ZA.out.keep (below_drew1 (Below.refl _ _))), (ZC.out.keep (below_drew1 (Below.refl _ _))), (ZD.out.keep (below_drew1 (Below.refl _ _))), (M16.out.keep (below_drew1 (Below.refl _ _))), (J19.out.keep (below_drew1 (Below.refl _ _))), (HK.out.keep (below_drew1 (Below.refl _ _))), (keep (below_drew1 (Below.refl _ _)) X0.out), (keep (below_drew1 (Below.refl _ _)) X1.out), (keep (below_drew1 (Below.refl _ _)) Y0.out), (keep (below_drew1 (Below.refl _ _)) Y1.out), (below_drew1 HS.out)⟩ (fun hh => ?_)
        refine take_ (i := 0) (N := some 100) (v := ?_) (a' := ?_) #[true, false, false, false, false, false, false, false] rfl rfl (by kernel_rfl) (fun _ _ _ h => h) (Or.inl ⟨by rfl, ?_⟩) hh ?_ ?_
        rotate_left
        · rintro w' ⟨s0, s1, s2, s3, s4, s5, s6, s7, s8, s9, s10, s11, s12, s13⟩
          go_simp
          with_reducible rfl
        rotate_left
        · simp only [Act.put, sA, sB, sC, i64_w, i32_w]
          rfl
        refine take_ (i := 1) (N := some 101) (v := ?_) (a' := ?_) #[true, true, false, false, false, false, false, false] rfl rfl (by kernel_rfl) (fun _ _ _ h => h) (Or.inl ⟨by rfl, ?_⟩) hh ?_ ?_
        rotate_left
        · rintro w' ⟨s0, s1, s2, s3, s4, s5, s6, s7, s8, s9, s10, s11, s12, s13⟩
          go_simp
          with_reducible rfl
        rotate_left
        · simp only [Act.put, sA, sB, sC, i64_w, i32_w]
          rfl
        refine take_ (i := 3) (N := some 103) (v := ?_) (a' := ?_) #[true, true, false, true, false, false, false, false] rfl rfl (by kernel_rfl) (fun _ _ _ h => h) (Or.inl ⟨by rfl, ?_⟩) hh ?_ ?_
        rotate_left
        · rintro w' ⟨s0, s1, s2, s3, s4, s5, s6, s7, s8, s9, s10, s11, s12, s13⟩
          go_simp
          with_reducible rfl
        rotate_left
        · simp only [Act.put, sA, sB, sC, i64_w, i32_w]
          rfl
        refine take_ (i := 4) (N := some 104) (v := ?_) (a' := ?_) #[true, true, false, true, true, false, false, false] rfl rfl (by kernel_rfl) (fun _ _ _ h => h) (Or.inl ⟨by rfl, ?_⟩) hh ?_ ?_
        rotate_left
        · rintro w' ⟨s0, s1, s2, s3, s4, s5, s6, s7, s8, s9, s10, s11, s12, s13⟩
          go_simp
          with_reducible rfl
        rotate_left
        · simp only [Act.put, sA, sB, sC, i64_w, i32_w]
          rfl
        refine one_ (i := 2) (N := some 102) #[true, true, true, true, true, false, false, false] rfl rfl (by kernel_rfl) (by decide) (fun K hK => ?_)
        refine goes_ Try.func16 (by kernel_rfl) rfl #[.agg #[.int .i64 a, .int .i64 m], .agg #[.int .i64 b, .int .i64 n]] (by rfl) rfl rfl (by simp only [List.map_toArray, List.map_cons, List.map_nil]; rfl) ?_
        with_reducible refine (span_Less.calls 1 a m b n (lessV a m b n) _ (less_eq a m b n 0)).mono ?_
        rintro e w52 ⟨v1, rfl, hr1, hb⟩
        refine ⟨_, rfl, ?_⟩
        have fr1 : ∀ k, Value.ownBlock v1 = some k → w6.heap.size ≤ k := fun k hk => Kd.R_base hr1 k hk
        replace hr1 := Kd.R_lower hr1 hh.1.size
        obtain ⟨AL1, cL1, hve, _⟩ := Kd.R_reads hr1
        subst hve
        have lt1 := fun k hk => Kd.R_lt hr1 k hk
        refine hK.out _ _ ⟨(below_step hh.1 hb), (hh.2.1.keep hb), (hh.2.2.1.keep hb), (hh.2.2.2.1.keep hb), (hh.2.2.2.2.1.keep hb), (hh.2.2.2.2.2.1.keep hb), (hh.2.2.2.2.2.2.1.keep hb), (hh.2.2.2.2.2.2.2.1.keep hb), (hh.2.2.2.2.2.2.2.2.1.keep hb), (keep hb hh.2.2.2.2.2.2.2.2.2.1), (keep hb hh.2.2.2.2.2.2.2.2.2.2.1), (keep hb hh.2.2.2.2.2.2.2.2.2.2.2.1), (keep hb hh.2.2.2.2.2.2.2.2.2.2.2.2.1), (below_step hh.2.2.2.2.2.2.2.2.2.2.2.2.2 hb)⟩ (fun hH2 => ?_)
        clear hK K hh
        try clear hb
        have hh := hH2
        clear hH2
        refine norm_ (a' := ?_) ?_ ?_
        rotate_left
        · show Act.put _ (some 102) _ = _
          simp only [Act.put, sA, sB, sC, i64_w, i32_w]
          rfl
        refine one_ (i := 5) (N := some 105) #[true, true, true, true, true, true, false, false] rfl rfl (by kernel_rfl) (by decide) (fun K hK => ?_)
        refine goes_ Try.func16 (by kernel_rfl) rfl #[.agg #[.int .i64 a, .int .i64 m], .agg #[.int .i64 b, .int .i64 n]] (by rfl) rfl rfl (by simp only [List.map_toArray, List.map_cons, List.map_nil]; rfl) ?_
        with_reducible refine (span_Less.calls 1 a m b n (lessV a m b n) _ (less_eq a m b n 0)).mono ?_
        rintro e w53 ⟨v2, rfl, hr2, hb⟩
        refine ⟨_, rfl, ?_⟩
        have fr2 : ∀ k, Value.ownBlock v2 = some k → w52.heap.size ≤ k := fun k hk => Kd.R_base hr2 k hk
        replace hr2 := Kd.R_lower hr2 hh.1.size
        obtain ⟨AL2, cL2, hve, _⟩ := Kd.R_reads hr2
        subst hve
        replace hr1 := Kd.R_below hr1 hb
        have ge52 : w6.heap.size ≤ w52.heap.size := hh.2.2.2.2.2.2.2.2.2.2.2.2.2.size
        refine hK.out _ _ ⟨(below_step hh.1 hb), (hh.2.1.keep hb), (hh.2.2.1.keep hb), (hh.2.2.2.1.keep hb), (hh.2.2.2.2.1.keep hb), (hh.2.2.2.2.2.1.keep hb), (hh.2.2.2.2.2.2.1.keep hb), (hh.2.2.2.2.2.2.2.1.keep hb), (hh.2.2.2.2.2.2.2.2.1.keep hb), (keep hb hh.2.2.2.2.2.2.2.2.2.1), (keep hb hh.2.2.2.2.2.2.2.2.2.2.1), (keep hb hh.2.2.2.2.2.2.2.2.2.2.2.1), (keep hb hh.2.2.2.2.2.2.2.2.2.2.2.2.1), (below_step hh.2.2.2.2.2.2.2.2.2.2.2.2.2 hb)⟩ (fun hH2 => ?_)
        clear hK K hh
        try clear hb
        have hh := hH2
        clear hH2
        refine norm_ (a' := ?_) ?_ ?_
        rotate_left
        · show Act.put _ (some 105) _ = _
          simp only [Act.put, sA, sB, sC, i64_w, i32_w]
          rfl
        refine pure_ (i := 6) (N := some 22) (v := ?_) (a' := ?_) #[true, true, true, true, true, true, true, false] rfl rfl (by kernel_rfl) (fun _ _ _ h => h) (Or.inl ⟨by rfl, ?_⟩) ?_ ?_
        rotate_left
        · intro w'
          go_simp
          with_reducible rfl
        rotate_left
        · simp only [Act.put, sA, sB, sC, i64_w, i32_w]
          rfl
        refine pure_ (i := 7) (N := some 23) (v := ?_) (a' := ?_) #[true, true, true, true, true, true, true, true] rfl rfl (by kernel_rfl) (fun _ _ _ h => h) (Or.inl ⟨by rfl, ?_⟩) ?_ ?_
        rotate_left
        · intro w'
          go_simp
          with_reducible rfl
        rotate_left
        · simp only [Act.put, sA, sB, sC, i64_w, i32_w]
          rfl
        refine done_ (by kernel_rfl) ?_
        replace HB := Aside0.mk hh.1
        replace A0 := Aside0.mk hh.2.1
        replace A1 := Aside0.mk hh.2.2.1
        replace ZA := Aside0.mk hh.2.2.2.1
        replace ZC := Aside0.mk hh.2.2.2.2.1
        replace ZD := Aside0.mk hh.2.2.2.2.2.1
        replace M16 := Aside0.mk hh.2.2.2.2.2.2.1
        replace J19 := Aside0.mk hh.2.2.2.2.2.2.2.1
        replace HK := Aside0.mk hh.2.2.2.2.2.2.2.2.1
        replace X0 := Aside0.mk hh.2.2.2.2.2.2.2.2.2.1
        replace X1 := Aside0.mk hh.2.2.2.2.2.2.2.2.2.2.1
        replace Y0 := Aside0.mk hh.2.2.2.2.2.2.2.2.2.2.2.1
        replace Y1 := Aside0.mk hh.2.2.2.2.2.2.2.2.2.2.2.2.1
        replace HS := Aside0.mk hh.2.2.2.2.2.2.2.2.2.2.2.2.2
        clear hh
        have VL := Aside0.mk hr1
        have VN := Aside0.mk hr2
        have FR1 := Aside0.mk fr1
        have FR2 : Aside0 (∀ k, Value.ownBlock (.slice AL2 (lessV a m b n).length cL2) = some k → w6.heap.size ≤ k) := ⟨fun k hk => Nat.le_trans ge52 (fr2 k hk)⟩
        have NE12 : Aside0 (∀ k, Value.ownBlock (.slice AL2 (lessV a m b n).length cL2) = some k → Value.ownBlock (.slice AL1 (lessV a m b n).length cL1) ≠ some k) := ⟨fun k hk e => by have h1 := lt1 k e; have h2 := fr2 k hk; omega⟩
        clear hr1 hr2 fr1 fr2 lt1 ge52
        clear HS
        clear X0 X1 Y0 Y1
        have HLl : Aside0 ((lessV a m b n).length ≤ 2) := ⟨lessV_length a m b n⟩
        have LT2 : Aside0 (∀ k, Value.ownBlock (.slice AL2 (lessV a m b n).length cL2) = some k → k < w53.heap.size) := ⟨fun k hk => Kd.R_lt VN.out k hk⟩
        obtain ⟨cs0, hkb0⟩ := HK.out.book
        have hkb := Aside0.mk hkb0
        clear hkb0
        go_wp2_with fail
        refine (kept_S gB w.heap.size _ _ _ _ _ _ _ HK.out VL.out (by have := HLl.out; omega) (by simp) FR1.out HB.out.size).mono ?_
        rintro e w7 ⟨rfl, hk, hfx⟩
        replace HB := Aside0.mk (HB.out.trans hfx.1)
        replace A0 := Aside0.mk (hfx.blkT hkb.out A0.out (by decide) (by decide))
        replace A1 := Aside0.mk (hfx.blkT hkb.out A1.out (by decide) (by decide))
        replace ZA := Aside0.mk (hfx.blkT hkb.out ZA.out (by decide) (by decide))
        replace ZC := Aside0.mk (hfx.blkT hkb.out ZC.out (by decide) (by decide))
        replace ZD := Aside0.mk (hfx.blkT hkb.out ZD.out (by decide) (by decide))
        replace M16 := Aside0.mk (hfx.blkT hkb.out M16.out (by decide) (by decide))
        replace J19 := Aside0.mk (hfx.blkT hkb.out J19.out (by decide) (by decide))
        replace VL := Aside0.mk (hfx.Rr rfl hkb.out VL.out (by decide) (by decide))
        replace VN := Aside0.mk (hfx.Rr rfl hkb.out VN.out (by decide) (by decide))
        clear hfx
        replace HK := Aside0.mk hk
        clear hk hkb cs0
        obtain ⟨cs0, hkb0⟩ := HK.out.book
        have hkb := Aside0.mk hkb0
        clear hkb0
        go_wp2_with fail
        refine (kept_S gB w.heap.size _ _ _ _ _ _ _ HK.out VN.out (by have := HLl.out; omega) (by simp) (fun k hk => .inl ⟨FR2.out k hk, LT2.out k hk, NE12.out k hk⟩) HB.out.size).mono ?_
        rintro e w8 ⟨rfl, hk, hfx⟩
        replace HB := Aside0.mk (HB.out.trans hfx.1)
        replace A0 := Aside0.mk (hfx.blkT hkb.out A0.out (by decide) (by decide))
        replace A1 := Aside0.mk (hfx.blkT hkb.out A1.out (by decide) (by decide))
        replace ZA := Aside0.mk (hfx.blkT hkb.out ZA.out (by decide) (by decide))
        replace ZC := Aside0.mk (hfx.blkT hkb.out ZC.out (by decide) (by decide))
        replace ZD := Aside0.mk (hfx.blkT hkb.out ZD.out (by decide) (by decide))
        replace M16 := Aside0.mk (hfx.blkT hkb.out M16.out (by decide) (by decide))
        replace J19 := Aside0.mk (hfx.blkT hkb.out J19.out (by decide) (by decide))
        replace VL := Aside0.mk (hfx.Rr rfl hkb.out VL.out (by decide) (by decide))
        replace VN := Aside0.mk (hfx.Rr rfl hkb.out VN.out (by decide) (by decide))
        clear hfx
        replace HK := Aside0.mk hk
        clear hk hkb cs0
        replace HK := Aside0.mk HK.out.top
        clear FR1 FR2 NE12 LT2
        clear VN
        go_upto_if 112 with fail
        go_cut [24] (fun v24 wc => v24 = .int .i64 en ∧ Aside0 (Below w.heap.size w wc) ∧ Aside0 (Blk wc g0 24 #[.int .i64 a, .int .i64 m]) ∧ Aside0 (Blk wc g1 24 #[.int .i64 b, .int .i64 n]) ∧ Aside0 (Blk wc g9 30 (setArr sx)) ∧ Aside0 (Blk wc g11 30 (setArr u)) ∧ Aside0 (Blk wc g12 30 (setArr v)) ∧ Aside0 (Blk wc g16 24 #[.int .i64 p, .int .i64 q]) ∧ Aside0 (Blk wc g19 24 #[.int .i64 j1, .int .i64 j2]) ∧ Aside0 (KeptAt wc w.heap.size gB (fun k => wc.heap.size ≤ k) [] ([] ++ [(lessV a m b n)] ++ [(lessV a m b n)]) []) ∧ Aside0 (Kd.R k24 24 wc w.heap.size (fun _ => True) (.slice AL1 (lessV a m b n).length cL1) (lessV a m b n)))
        case first =>
          as_aux_lemma =>
          cases va with
          | false =>
            obtain rfl := HT.out.a0 rfl
            go_wp2_with fail
            go_meet
            case rel => exact ⟨rfl, HB, A0, A1, ZA, ZC, ZD, M16, J19, HK, VL⟩
          | true =>
            obtain ⟨he, b0, b1, b2, b3⟩ := HT.out.a1 rfl
            subst he
            have x0 := A0.out.cell (i := 0) (v := .int .i64 a) rfl
            have x1 := A0.out.cell (i := 1) (v := .int .i64 m) rfl
            go_wp2_with fail
            go_meet
            case rel => exact ⟨rfl, HB, A0, A1, ZA, ZC, ZD, M16, J19, HK, VL⟩
        case rest =>
          clear HB A0 A1 ZA ZC ZD M16 J19 HK VL
          obtain ⟨rfl, HB, A0, A1, ZA, ZC, ZD, M16, J19, HK, VL⟩ := hcut
          as_aux_lemma =>
          go_wp2_with fail
          go_cut [181] (fun v181 wc => v181 = .bool false ∧ Aside0 (Below w.heap.size w wc) ∧ Aside0 (Blk wc g0 24 #[.int .i64 a, .int .i64 m]) ∧ Aside0 (Blk wc g1 24 #[.int .i64 b, .int .i64 n]) ∧ Aside0 (Blk wc g9 30 (setArr sx)) ∧ Aside0 (Blk wc g11 30 (setArr u)) ∧ Aside0 (Blk wc g12 30 (setArr v)) ∧ Aside0 (Blk wc g16 24 #[.int .i64 p, .int .i64 q]) ∧ Aside0 (Blk wc g19 24 #[.int .i64 j1, .int .i64 j2]) ∧ Aside0 (KeptAt wc w.heap.size gB (fun k => wc.heap.size ≤ k) [] ([] ++ [(lessV a m b n)] ++ [(lessV a m b n)]) []) ∧ Aside0 (Kd.R k24 24 wc w.heap.size (fun _ => True) (.slice AL1 (lessV a m b n).length cL1) (lessV a m b n)))
          case first =>
            as_aux_lemma =>
            cases vm with
            | true =>
              obtain ⟨hva, hvt, hcb1⟩ := HT.out.yes rfl
              subst hva
              subst hvt
              as_aux_lemma =>
              have X0 := Aside0.mk (A0.out.cell (i := 0) (v := .int .i64 a) rfl)
              have X1 := Aside0.mk (A0.out.cell (i := 1) (v := .int .i64 m) rfl)
              have Y0 := Aside0.mk (A1.out.cell (i := 0) (v := .int .i64 b) rfl)
              have Y1 := Aside0.mk (A1.out.cell (i := 1) (v := .int .i64 n) rfl)
              have P0 := Aside0.mk (M16.out.cell (i := 0) (v := .int .i64 p) rfl)
              have P1 := Aside0.mk (M16.out.cell (i := 1) (v := .int .i64 q) rfl)
              have J0 := Aside0.mk (J19.out.cell (i := 0) (v := .int .i64 j1) rfl)
              have J1 := Aside0.mk (J19.out.cell (i := 1) (v := .int .i64 j2) rfl)
              have hval : Aside0 (span_Valid.f a m bl = some (decide (en ≤ bl))) := ⟨by rw [valid_any]; congr 1; rw [decide_eq_decide]; have h1 := HT.out.a1 rfl; have h2 := of_decide_eq_true (Option.some.inj ((rwhole_eq a m).symm.trans HT.out.wa)); exact ⟨fun h => by rw [h1.1]; exact h.2, fun h => ⟨h2, by rw [h1.1] at h; exact h⟩⟩⟩
              have hcb : (0 : Int) < (cb : Int) := by have := (HT.out.yes rfl).2.2; omega
              have hcbn : 0 < cb := by omega
              have HS : Aside0 (Below wc.heap.size wc wc) := ⟨Below.refl _ _⟩
              as_aux_lemma =>
              refine start_ (n := 64) (S := fun w' => Below wc.heap.size wc w' ∧ Blk w' g11 30 (setArr u) ∧ w'.cell? ⟨g0, 0, none⟩ = some (.int .i64 a) ∧ w'.cell? ⟨g0, 1, none⟩ = some (.int .i64 m) ∧ w'.cell? ⟨g1, 0, none⟩ = some (.int .i64 b) ∧ w'.cell? ⟨g1, 1, none⟩ = some (.int .i64 n) ∧ w'.cell? ⟨g16, 0, none⟩ = some (.int .i64 p) ∧ w'.cell? ⟨g16, 1, none⟩ = some (.int .i64 q) ∧ w'.cell? ⟨g19, 0, none⟩ = some (.int .i64 j1) ∧ w'.cell? ⟨g19, 1, none⟩ = some (.int .i64 j2)) (ds := []) #[false, false, false, false, false, false, false, false, false, false, false, false, false, false, false, false, false, false, false, false, false, false, false, false, false, false, false, false, false, false, false, false, false, false, false, false, false, false, false, false, false, false, false, false, false, false, false, false, false, false, false, false, false, false, false, false, false, false, false, false, false, false, false, false] (by kernel_rfl) rfl rfl ⟨(below_drew1 HS.out), (ZC.out.keep (below_drew1 (Below.refl _ _))), (keep (below_drew1 (Below.refl _ _)) X0.out), (keep (below_drew1 (Below.refl _ _)) X1.out), (keep (below_drew1 (Below.refl _ _)) Y0.out), (keep (below_drew1 (Below.refl _ _)) Y1.out), (keep (below_drew1 (Below.refl _ _)) P0.out), (keep (below_drew1 (Below.refl _ _)) P1.out), (keep (below_drew1 (Below.refl _ _)) J0.out), (keep (below_drew1 (Below.refl _ _)) J1.out)⟩ (fun hh => ?_)
              refine with_tabW (T := qq.T21) (B := qq.B21) (by kernel_rfl) qq.bits21 (fun HT_ HW_ => ?_)
              refine pure_ (i := 1) (N := some 119) (v := ?_) (a' := ?_) qq.m0 rfl rfl (any_of HT_.out (by kernel_rfl)) (fun _ _ _ h => h) (Or.inl ⟨by rfl, ?_⟩) ?_ ?_
              rotate_left
              · intro w'
                go_simp
                with_reducible rfl
              rotate_left
              · simp only [Act.put, sA, sB, sC, i64_w, i32_w]
                rfl
              refine pure_ (i := 3) (N := some 121) (v := ?_) (a' := ?_) qq.m1 rfl rfl (any_of HT_.out (by kernel_rfl)) (fun _ _ _ h => h) (Or.inl ⟨by rfl, ?_⟩) ?_ ?_
              rotate_left
              · intro w'
                go_simp
                with_reducible rfl
              rotate_left
              · simp only [Act.put, sA, sB, sC, i64_w, i32_w]
                rfl
              refine take_ (i := 0) (N := some 118) (v := ?_) (a' := ?_) qq.m2 rfl rfl (take_ofW HT_.out HW_.out (by kernel_rfl)) (fun _ _ _ h => h) (Or.inl ⟨by rfl, ?_⟩) hh ?_ ?_
              rotate_left
              · rintro w' ⟨s0, s1, s2, s3, s4, s5, s6, s7, s8, s9⟩
                go_simp
                with_reducible rfl
              rotate_left
              · simp only [Act.put, sA, sB, sC, i64_w, i32_w]
                rfl
              refine one_ (i := 2) (N := some 120) qq.m3 rfl rfl (one_of HT_.out (by kernel_rfl)) (by decide) (fun K hK => ?_)
              refine goes_ Try.func18 (by kernel_rfl) rfl #[.agg #[.int .i64 a, .int .i64 m], .int .i64 bl] (by rfl) rfl rfl (by simp only [List.map_toArray, List.map_cons, List.map_nil]; rfl) ?_
              with_reducible refine (span_Valid.calls a m bl (decide (en ≤ bl)) _ hval.out).mono ?_
              rintro e w60 ⟨rfl, hb⟩
              refine ⟨_, rfl, ?_⟩
              refine hK.out _ _ ⟨(below_step hh.1 hb), (hh.2.1.keep hb), (keep hb hh.2.2.1), (keep hb hh.2.2.2.1), (keep hb hh.2.2.2.2.1), (keep hb hh.2.2.2.2.2.1), (keep hb hh.2.2.2.2.2.2.1), (keep hb hh.2.2.2.2.2.2.2.1), (keep hb hh.2.2.2.2.2.2.2.2.1), (keep hb hh.2.2.2.2.2.2.2.2.2)⟩ (fun hH2 => ?_)
              clear hK K hh
              try clear hb
              have hh := hH2
              clear hH2
              refine norm_ (a' := ?_) ?_ ?_
              rotate_left
              · show Act.put _ (some 120) _ = _
                simp only [Act.put, sA, sB, sC, i64_w, i32_w]
                rfl
              refine pure_ (i := 4) (N := some 122) (v := ?_) (a' := ?_) qq.m4 rfl rfl (any_of HT_.out (by kernel_rfl)) (fun _ _ _ h => h) (Or.inl ⟨by rfl, ?_⟩) ?_ ?_
              rotate_left
              · intro w'
                go_simp
                with_reducible rfl
              rotate_left
              · simp only [Act.put, sA, sB, sC, i64_w, i32_w]
                rfl
              refine pure_ (i := 5) (N := some 123) (v := ?_) (a' := ?_) qq.m5 rfl rfl (any_of HT_.out (by kernel_rfl)) (fun _ _ _ h => h) (Or.inl ⟨by rfl, ?_⟩) ?_ ?_
              rotate_left
              · intro w'
                go_simp
                with_reducible rfl
              rotate_left
              · simp only [Act.put, sA, sB, sC, i64_w, i32_w]
                rfl
              refine pure_ (i := 6) (N := some 124) (v := ?_) (a' := ?_) qq.m6 rfl rfl (any_of HT_.out (by kernel_rfl)) (fun _ _ _ h => h) (Or.inl ⟨by rfl, ?_⟩) ?_ ?_
              rotate_left
              · intro w'
                go_simp
                with_reducible rfl
              rotate_left
              · simp only [Act.put, sA, sB, sC, i64_w, i32_w]
                rfl
              refine pure_ (i := 7) (N := some 125) (v := ?_) (a' := ?_) qq.m7 rfl rfl (any_of HT_.out (by kernel_rfl)) (fun _ _ _ h => h) (Or.inl ⟨by rfl, ?_⟩) ?_ ?_
              rotate_left
              · intro w'
                go_simp
                with_reducible rfl
              rotate_left
              · simp only [Act.put, sA, sB, sC, i64_w, i32_w]
                rfl
              refine pure_ (i := 8) (N := some 126) (v := ?_) (a' := ?_) qq.m8 rfl rfl (any_of HT_.out (by kernel_rfl)) (fun _ _ _ h => h) (Or.inl ⟨by rfl, ?_⟩) ?_ ?_
              rotate_left
              · intro w'
                go_simp
                with_reducible rfl
              rotate_left
              · simp only [Act.put, sA, sB, sC, i64_w, i32_w]
                rfl
              refine pure_ (i := 9) (N := some 127) (v := ?_) (a' := ?_) qq.m9 rfl rfl (any_of HT_.out (by kernel_rfl)) (fun _ _ _ h => h) (Or.inl ⟨by rfl, ?_⟩) ?_ ?_
              rotate_left
              · intro w'
                go_simp
                with_reducible rfl
              rotate_left
              · simp only [Act.put, sA, sB, sC, i64_w, i32_w]
                rfl
              refine pure_ (i := 10) (N := some 128) (v := ?_) (a' := ?_) qq.m10 rfl rfl (any_of HT_.out (by kernel_rfl)) (fun _ _ _ h => h) (Or.inl ⟨by rfl, ?_⟩) ?_ ?_
              rotate_left
              · intro w'
                go_simp
                with_reducible rfl
              rotate_left
              · simp only [Act.put, sA, sB, sC, i64_w, i32_w]
                rfl
              refine pure_ (i := 13) (N := some 131) (v := ?_) (a' := ?_) qq.m11 rfl rfl (any_of HT_.out (by kernel_rfl)) (fun _ _ _ h => h) (Or.inl ⟨by rfl, ?_⟩) ?_ ?_
              rotate_left
              · intro w'
                go_simp
                with_reducible rfl
              rotate_left
              · simp only [Act.put, sA, sB, sC, i64_w, i32_w]
                rfl
              refine take_ (i := 11) (N := some 129) (v := ?_) (a' := ?_) qq.m12 rfl rfl (take_ofW HT_.out HW_.out (by kernel_rfl)) (fun _ _ _ h => h) (Or.inl ⟨by rfl, ?_⟩) hh ?_ ?_
              rotate_left
              · rintro w' ⟨s0, s1, s2, s3, s4, s5, s6, s7, s8, s9⟩
                go_simp
                with_reducible rfl
              rotate_left
              · simp only [Act.put, sA, sB, sC, i64_w, i32_w]
                rfl
              refine one_ (i := 12) (N := some 130) qq.m13 rfl rfl (one_of HT_.out (by kernel_rfl)) (by decide) (fun K hK => ?_)
              refine goes_ Try.func24 (by kernel_rfl) rfl #[.agg #[.int .i64 a, .int .i64 m]] (by rfl) rfl rfl (by simp only [List.map_toArray, List.map_cons, List.map_nil]; rfl) ?_
              with_reducible refine (span_End.calls a m en _ HT.out.end_).mono ?_
              rintro e w61 ⟨rfl, hb⟩
              refine ⟨_, rfl, ?_⟩
              refine hK.out _ _ ⟨(below_step hh.1 hb), (hh.2.1.keep hb), (keep hb hh.2.2.1), (keep hb hh.2.2.2.1), (keep hb hh.2.2.2.2.1), (keep hb hh.2.2.2.2.2.1), (keep hb hh.2.2.2.2.2.2.1), (keep hb hh.2.2.2.2.2.2.2.1), (keep hb hh.2.2.2.2.2.2.2.2.1), (keep hb hh.2.2.2.2.2.2.2.2.2)⟩ (fun hH2 => ?_)
              clear hK K hh
              try clear hb
              have hh := hH2
              clear hH2
              refine norm_ (a' := ?_) ?_ ?_
              rotate_left
              · show Act.put _ (some 130) _ = _
                simp only [Act.put, sA, sB, sC, i64_w, i32_w]
                rfl
              refine pure_ (i := 14) (N := some 132) (v := ?_) (a' := ?_) qq.m14 rfl rfl (any_of HT_.out (by kernel_rfl)) (fun _ _ _ h => h) (Or.inl ⟨by rfl, ?_⟩) ?_ ?_
              rotate_left
              · intro w'
                go_simp
                with_reducible rfl
              rotate_left
              · simp only [Act.put, sA, sB, sC, i64_w, i32_w]
                rfl
              refine pure_ (i := 15) (N := some 133) (v := ?_) (a' := ?_) qq.m15 rfl rfl (any_of HT_.out (by kernel_rfl)) (fun _ _ _ h => h) (Or.inl ⟨by rfl, ?_⟩) ?_ ?_
              rotate_left
              · intro w'
                go_simp
                with_reducible rfl
              rotate_left
              · simp only [Act.put, sA, sB, sC, i64_w, i32_w]
                rfl
              refine pure_ (i := 16) (N := some 134) (v := ?_) (a' := ?_) qq.m16 rfl rfl (any_of HT_.out (by kernel_rfl)) (fun _ _ _ h => h) (Or.inl ⟨by rfl, ?_⟩) ?_ ?_
              rotate_left
              · intro w'
                go_simp
                with_reducible rfl
              rotate_left
              · simp only [Act.put, sA, sB, sC, i64_w, i32_w]
                rfl
              refine pure_ (i := 17) (N := some 135) (v := ?_) (a' := ?_) qq.m17 rfl rfl (any_of HT_.out (by kernel_rfl)) (fun _ _ _ h => h) (Or.inl ⟨by rfl, ?_⟩) ?_ ?_
              rotate_left
              · intro w'
                go_simp
                with_reducible rfl
              rotate_left
              · simp only [Act.put, sA, sB, sC, i64_w, i32_w]
                rfl
              refine take_ (i := 18) (N := some 136) (v := ?_) (a' := ?_) qq.m18 rfl rfl (take_ofW HT_.out HW_.out (by kernel_rfl)) (fun _ _ _ h => h) (Or.inl ⟨by rfl, ?_⟩) hh ?_ ?_
              rotate_left
              · rintro w' ⟨s0, s1, s2, s3, s4, s5, s6, s7, s8, s9⟩
                refine row_yields 30 (.tmp 11) ?_ g11 ?_ 30 (setArr u) (0, 0) _ s1.hd Try.underlying30 rfl (by rw [setArr_size, Hul.out] <;> exact info30)
                · rfl
                · rfl
              rotate_left
              · simp only [Act.put, sA, sB, sC, i64_w, i32_w]
                rfl
              refine one_ (i := 19) (N := some 137) qq.m19 rfl rfl (one_of HT_.out (by kernel_rfl)) (by decide) (fun K hK => ?_)
              refine goes_ Try.func25 (by kernel_rfl) rfl #[.agg (setArr u)] (by rfl) rfl rfl (by simp only [List.map_toArray, List.map_cons, List.map_nil]; rfl) ?_
              with_reducible refine (set_cnt u cb Hul.out Huc.out _).mono ?_
              rintro e w62 ⟨rfl, hb⟩
              refine ⟨_, rfl, ?_⟩
              refine hK.out _ _ ⟨(below_step hh.1 hb), (hh.2.1.keep hb), (keep hb hh.2.2.1), (keep hb hh.2.2.2.1), (keep hb hh.2.2.2.2.1), (keep hb hh.2.2.2.2.2.1), (keep hb hh.2.2.2.2.2.2.1), (keep hb hh.2.2.2.2.2.2.2.1), (keep hb hh.2.2.2.2.2.2.2.2.1), (keep hb hh.2.2.2.2.2.2.2.2.2)⟩ (fun hH2 => ?_)
              clear hK K hh
              try clear hb
              have hh := hH2
              clear hH2
              refine norm_ (a' := ?_) ?_ ?_
              rotate_left
              · show Act.put _ (some 137) _ = _
                simp only [Act.put, sA, sB, sC, i64_w, i32_w]
                rfl
              refine pure_ (i := 20) (N := some 138) (v := ?_) (a' := ?_) qq.m20 rfl rfl (any_of HT_.out (by kernel_rfl)) (fun _ _ _ h => h) (Or.inl ⟨by rfl, ?_⟩) ?_ ?_
              rotate_left
              · intro w'
                go_simp
                with_reducible rfl
              rotate_left
              · simp only [Act.put, sA, sB, sC, i64_w, i32_w]
                rfl
              refine pure_ (i := 21) (N := some 139) (v := ?_) (a' := ?_) qq.m21 rfl rfl (any_of HT_.out (by kernel_rfl)) (fun _ _ _ h => h) (Or.inl ⟨by rfl, ?_⟩) ?_ ?_
              rotate_left
              · intro w'
                go_simp
                with_reducible rfl
              rotate_left
              · simp only [Act.put, sA, sB, sC, i64_w, i32_w]
                rfl
              refine pure_ (i := 22) (N := some 140) (v := ?_) (a' := ?_) qq.m22 rfl rfl (any_of HT_.out (by kernel_rfl)) (fun _ _ _ h => h) (Or.inl ⟨by rfl, ?_⟩) ?_ ?_
              rotate_left
              · intro w'
                go_simp
                with_reducible rfl
              rotate_left
              · simp only [Act.put, sA, sB, sC, i64_w, i32_w]
                rfl
              refine pure_ (i := 23) (N := some 141) (v := ?_) (a' := ?_) qq.m23 rfl rfl (any_of HT_.out (by kernel_rfl)) (fun _ _ _ h => h) (Or.inl ⟨by rfl, ?_⟩) ?_ ?_
              rotate_left
              · intro w'
                go_simp
                with_reducible rfl
              rotate_left
              · simp only [Act.put, sA, sB, sC, i64_w, i32_w]
                rfl
              refine pure_ (i := 24) (N := some 142) (v := ?_) (a' := ?_) qq.m24 rfl rfl (any_of HT_.out (by kernel_rfl)) (fun _ _ _ h => h) (Or.inl ⟨by rfl, ?_⟩) ?_ ?_
              rotate_left
              · intro w'
                go_simp
                with_reducible rfl
              rotate_left
              · simp only [Act.put, sA, sB, sC, i64_w, i32_w]
                rfl
              refine pure_ (i := 25) (N := some 143) (v := ?_) (a' := ?_) qq.m25 rfl rfl (any_of HT_.out (by kernel_rfl)) (fun _ _ _ h => h) (Or.inl ⟨by rfl, ?_⟩) ?_ ?_
              rotate_left
              · intro w'
                go_simp
                with_reducible rfl
              rotate_left
              · simp only [Act.put, sA, sB, sC, i64_w, i32_w]
                rfl
              refine take_ (i := 26) (N := some 144) (v := ?_) (a' := ?_) qq.m26 rfl rfl (take_ofW HT_.out HW_.out (by kernel_rfl)) (fun _ _ _ h => h) (Or.inl ⟨by rfl, ?_⟩) hh ?_ ?_
              rotate_left
              · rintro w' ⟨s0, s1, s2, s3, s4, s5, s6, s7, s8, s9⟩
                go_simp
                with_reducible rfl
              rotate_left
              · simp only [Act.put, sA, sB, sC, i64_w, i32_w]
                rfl
              refine take_ (i := 28) (N := some 146) (v := ?_) (a' := ?_) qq.m27 rfl rfl (take_ofW HT_.out HW_.out (by kernel_rfl)) (fun _ _ _ h => h) (Or.inl ⟨by rfl, ?_⟩) hh ?_ ?_
              rotate_left
              · rintro w' ⟨s0, s1, s2, s3, s4, s5, s6, s7, s8, s9⟩
                refine row_yields 30 (.tmp 11) ?_ g11 ?_ 30 (setArr u) (0, 0) _ s1.hd Try.underlying30 rfl (by rw [setArr_size, Hul.out] <;> exact info30)
                · rfl
                · rfl
              rotate_left
              · simp only [Act.put, sA, sB, sC, i64_w, i32_w]
                rfl
              refine join_ (σ := Nat × Option Addr × Nat) 34 qq.m28 (fun s_ => [(145, .slice (some ⟨s_.1, 0, none⟩) 1 1), (147, .slice s_.2.1 ([⟨p, q⟩] : List SP).length s_.2.2)]) (fun s_ w' => (Below wc.heap.size wc w' ∧ Blk w' g11 30 (setArr u) ∧ w'.cell? ⟨g0, 0, none⟩ = some (.int .i64 a) ∧ w'.cell? ⟨g0, 1, none⟩ = some (.int .i64 m) ∧ w'.cell? ⟨g1, 0, none⟩ = some (.int .i64 b) ∧ w'.cell? ⟨g1, 1, none⟩ = some (.int .i64 n) ∧ w'.cell? ⟨g16, 0, none⟩ = some (.int .i64 p) ∧ w'.cell? ⟨g16, 1, none⟩ = some (.int .i64 q) ∧ w'.cell? ⟨g19, 0, none⟩ = some (.int .i64 j1) ∧ w'.cell? ⟨g19, 1, none⟩ = some (.int .i64 j2)) ∧ Blk w' s_.1 24 #[.int .i64 p, .int .i64 q] ∧ ([⟨p, q⟩] : List SP).length ≤ s_.2.2 ∧ Kd.C k24 w' s_.2.1 ([⟨p, q⟩] : List SP).length ([⟨p, q⟩] : List SP)) ?_ ?_
              rotate_left
              · intro hCont
                refine two_ (i := 27) (j := 29) (Ni := some 145) (Nj := some 147) qq.m29 qq.m30 rfl rfl rfl rfl (two_of HT_.out (by kernel_rfl)) (by decide) (by decide) (fun K hK => ?_) (fun K hK => ?_)
                · skip
                  refine value_ (w1 := ?_) (v := ?_) (by rfl) rfl ?_ ?_
                  rotate_left 2
                  · go_simp
                    constructor
                    · rfl
                    · rfl
                  have hN : Blk (w62.alloc (.cells #[.int .i64 p, .int .i64 q] 24)) (w62.heap.size) 24 #[.int .i64 p, .int .i64 q] := Blk.newN _ _ _ _ (by simp)
                  refine hK.out _ _ ⟨(below_alloc hh.1 _), (hh.2.1.keep (below_alloc (Below.refl _ _) _)), (keep (below_alloc (Below.refl _ _) _) hh.2.2.1), (keep (below_alloc (Below.refl _ _) _) hh.2.2.2.1), (keep (below_alloc (Below.refl _ _) _) hh.2.2.2.2.1), (keep (below_alloc (Below.refl _ _) _) hh.2.2.2.2.2.1), (keep (below_alloc (Below.refl _ _) _) hh.2.2.2.2.2.2.1), (keep (below_alloc (Below.refl _ _) _) hh.2.2.2.2.2.2.2.1), (keep (below_alloc (Below.refl _ _) _) hh.2.2.2.2.2.2.2.2.1), (keep (below_alloc (Below.refl _ _) _) hh.2.2.2.2.2.2.2.2.2)⟩ (fun hH2 => ?_)
                  clear hK K hh
                  try clear hb
                  have hh := hH2
                  clear hH2
                  refine norm_ (a' := ?_) ?_ ?_
                  rotate_left
                  · show Act.put _ (some 145) _ = _
                    simp only [Act.put, sA, sB, sC, i64_w, i32_w]
                    rfl
                  refine one_ (i := 29) (N := some 147) qq.m28 rfl rfl (one_of HT_.out (by kernel_rfl)) (by decide) (fun K hK => ?_)
                  refine goes_ Try.func27 (by kernel_rfl) rfl #[.agg (setArr u)] (by rfl) rfl rfl (by simp only [List.map_toArray, List.map_cons, List.map_nil]; rfl) ?_
                  with_reducible refine (set_spans u Hul.out _).mono ?_
                  rintro e w64 ⟨vs, rfl, hos, hb⟩
                  refine ⟨_, rfl, ?_⟩
                  rw [Hus.out rfl] at hos
                  obtain ⟨As, cs, hse, hcs, hCs, _⟩ := hos.reads
                  subst hse
                  replace hN := hN.keep hb
                  refine hK.out _ _ ⟨(below_step hh.1 hb), (hh.2.1.keep hb), (keep hb hh.2.2.1), (keep hb hh.2.2.2.1), (keep hb hh.2.2.2.2.1), (keep hb hh.2.2.2.2.2.1), (keep hb hh.2.2.2.2.2.2.1), (keep hb hh.2.2.2.2.2.2.2.1), (keep hb hh.2.2.2.2.2.2.2.2.1), (keep hb hh.2.2.2.2.2.2.2.2.2)⟩ (fun hH2 => ?_)
                  clear hK K hh
                  try clear hb
                  have hh := hH2
                  clear hH2
                  refine norm_ (a' := ?_) ?_ ?_
                  rotate_left
                  · show Act.put _ (some 147) _ = _
                    simp only [Act.put, sA, sB, sC, i64_w, i32_w]
                    rfl
                  exact norm_ (by simp only [putAll, Act.put, sA, sB, sC]) (hCont (w62.heap.size, As, cs) _ ⟨hh, hN, hcs, hCs⟩)
                · skip
                  refine goes_ Try.func27 (by kernel_rfl) rfl #[.agg (setArr u)] (by rfl) rfl rfl (by simp only [List.map_toArray, List.map_cons, List.map_nil]; rfl) ?_
                  with_reducible refine (set_spans u Hul.out _).mono ?_
                  rintro e w64 ⟨vs, rfl, hos, hb⟩
                  refine ⟨_, rfl, ?_⟩
                  rw [Hus.out rfl] at hos
                  obtain ⟨As, cs, hse, hcs, hCs, _⟩ := hos.reads
                  subst hse
                  refine hK.out _ _ ⟨(below_step hh.1 hb), (hh.2.1.keep hb), (keep hb hh.2.2.1), (keep hb hh.2.2.2.1), (keep hb hh.2.2.2.2.1), (keep hb hh.2.2.2.2.2.1), (keep hb hh.2.2.2.2.2.2.1), (keep hb hh.2.2.2.2.2.2.2.1), (keep hb hh.2.2.2.2.2.2.2.2.1), (keep hb hh.2.2.2.2.2.2.2.2.2)⟩ (fun hH2 => ?_)
                  clear hK K hh
                  try clear hb
                  have hh := hH2
                  clear hH2
                  refine norm_ (a' := ?_) ?_ ?_
                  rotate_left
                  · show Act.put _ (some 147) _ = _
                    simp only [Act.put, sA, sB, sC, i64_w, i32_w]
                    rfl
                  refine one_ (i := 27) (N := some 145) qq.m28 rfl rfl (one_of HT_.out (by kernel_rfl)) (by decide) (fun K hK => ?_)
                  refine value_ (w1 := ?_) (v := ?_) (by rfl) rfl ?_ ?_
                  rotate_left 2
                  · go_simp
                    constructor
                    · rfl
                    · rfl
                  have hN : Blk (w64.alloc (.cells #[.int .i64 p, .int .i64 q] 24)) (w64.heap.size) 24 #[.int .i64 p, .int .i64 q] := Blk.newN _ _ _ _ (by simp)
                  replace hCs := Kd.C_below hCs (below_alloc (Below.refl _ _) (.cells #[.int .i64 p, .int .i64 q] 24))
                  refine hK.out _ _ ⟨(below_alloc hh.1 _), (hh.2.1.keep (below_alloc (Below.refl _ _) _)), (keep (below_alloc (Below.refl _ _) _) hh.2.2.1), (keep (below_alloc (Below.refl _ _) _) hh.2.2.2.1), (keep (below_alloc (Below.refl _ _) _) hh.2.2.2.2.1), (keep (below_alloc (Below.refl _ _) _) hh.2.2.2.2.2.1), (keep (below_alloc (Below.refl _ _) _) hh.2.2.2.2.2.2.1), (keep (below_alloc (Below.refl _ _) _) hh.2.2.2.2.2.2.2.1), (keep (below_alloc (Below.refl _ _) _) hh.2.2.2.2.2.2.2.2.1), (keep (below_alloc (Below.refl _ _) _) hh.2.2.2.2.2.2.2.2.2)⟩ (fun hH2 => ?_)
                  clear hK K hh
                  try clear hb
                  have hh := hH2
                  clear hH2
                  refine norm_ (a' := ?_) ?_ ?_
                  rotate_left
                  · show Act.put _ (some 145) _ = _
                    simp only [Act.put, sA, sB, sC, i64_w, i32_w]
                    rfl
                  exact norm_ (by simp only [putAll, Act.put, sA, sB, sC]) (hCont (w64.heap.size, As, cs) _ ⟨hh, hN, hcs, hCs⟩)
              rintro ⟨gN, As, cs⟩ w65 ⟨hS_, hN, hcs, hCs⟩
              simp only at hN hcs hCs
              have hh : (Below wc.heap.size wc w65 ∧ Blk w65 g11 30 (setArr u) ∧ w65.cell? ⟨g0, 0, none⟩ = some (.int .i64 a) ∧ w65.cell? ⟨g0, 1, none⟩ = some (.int .i64 m) ∧ w65.cell? ⟨g1, 0, none⟩ = some (.int .i64 b) ∧ w65.cell? ⟨g1, 1, none⟩ = some (.int .i64 n) ∧ w65.cell? ⟨g16, 0, none⟩ = some (.int .i64 p) ∧ w65.cell? ⟨g16, 1, none⟩ = some (.int .i64 q) ∧ w65.cell? ⟨g19, 0, none⟩ = some (.int .i64 j1) ∧ w65.cell? ⟨g19, 1, none⟩ = some (.int .i64 j2)) := hS_
              refine norm_ (a' := ?_) ?_ ?_
              rotate_left
              · simp only [putAll, Act.put, sA, sB, sC]
                rfl
              refine one_ (i := 30) (N := some 148) qq.m31 rfl rfl (one_of HT_.out (by kernel_rfl)) (by decide) (fun K hK => ?_)
              refine goes_ Try.func26 (by kernel_rfl) rfl #[.slice (some ⟨gN, 0, none⟩) 1 1, .slice As ([⟨p, q⟩] : List SP).length cs] (by rfl) rfl rfl (by simp only [List.map_toArray, List.map_cons, List.map_nil]; rfl) ?_
              with_reducible refine (same_C1 gN As cs _ hcs _ (C_blk1 hN) hCs).mono ?_
              rintro e w67 ⟨rfl, hb⟩
              refine ⟨_, rfl, ?_⟩
              refine hK.out _ _ ⟨(below_step hh.1 hb), (hh.2.1.keep hb), (keep hb hh.2.2.1), (keep hb hh.2.2.2.1), (keep hb hh.2.2.2.2.1), (keep hb hh.2.2.2.2.2.1), (keep hb hh.2.2.2.2.2.2.1), (keep hb hh.2.2.2.2.2.2.2.1), (keep hb hh.2.2.2.2.2.2.2.2.1), (keep hb hh.2.2.2.2.2.2.2.2.2)⟩ (fun hH2 => ?_)
              clear hK K hh
              try clear hb
              have hh := hH2
              clear hH2
              refine norm_ (a' := ?_) ?_ ?_
              rotate_left
              · show Act.put _ (some 148) _ = _
                simp only [Act.put, sA, sB, sC, i64_w, i32_w]
                rfl
              refine pure_ (i := 31) (N := some 149) (v := ?_) (a' := ?_) qq.m32 rfl rfl (any_of HT_.out (by kernel_rfl)) (fun _ _ _ h => h) (Or.inl ⟨by rfl, ?_⟩) ?_ ?_
              rotate_left
              · intro w'
                go_simp
                with_reducible rfl
              rotate_left
              · simp only [Act.put, sA, sB, sC, i64_w, i32_w]
                rfl
              refine pure_ (i := 32) (N := some 150) (v := ?_) (a' := ?_) qq.m33 rfl rfl (any_of HT_.out (by kernel_rfl)) (fun _ _ _ h => h) (Or.inl ⟨by rfl, ?_⟩) ?_ ?_
              rotate_left
              · intro w'
                go_simp
                with_reducible rfl
              rotate_left
              · simp only [Act.put, sA, sB, sC, i64_w, i32_w]
                rfl
              refine pure_ (i := 33) (N := some 151) (v := ?_) (a' := ?_) qq.m34 rfl rfl (any_of HT_.out (by kernel_rfl)) (fun _ _ _ h => h) (Or.inl ⟨by rfl, ?_⟩) ?_ ?_
              rotate_left
              · intro w'
                go_simp
                with_reducible rfl
              rotate_left
              · simp only [Act.put, sA, sB, sC, i64_w, i32_w]
                rfl
              refine pure_ (i := 34) (N := some 152) (v := ?_) (a' := ?_) qq.m35 rfl rfl (any_of HT_.out (by kernel_rfl)) (fun _ _ _ h => h) (Or.inl ⟨by rfl, ?_⟩) ?_ ?_
              rotate_left
              · intro w'
                go_simp
                with_reducible rfl
              rotate_left
              · simp only [Act.put, sA, sB, sC, i64_w, i32_w]
                rfl
              refine pure_ (i := 35) (N := some 153) (v := ?_) (a' := ?_) qq.m36 rfl rfl (any_of HT_.out (by kernel_rfl)) (fun _ _ _ h => h) (Or.inl ⟨by rfl, ?_⟩) ?_ ?_
              rotate_left
              · intro w'
                go_simp
                with_reducible rfl
              rotate_left
              · simp only [Act.put, sA, sB, sC, i64_w, i32_w]
                rfl
              refine pure_ (i := 36) (N := some 154) (v := ?_) (a' := ?_) qq.m37 rfl rfl (any_of HT_.out (by kernel_rfl)) (fun _ _ _ h => h) (Or.inl ⟨by rfl, ?_⟩) ?_ ?_
              rotate_left
              · intro w'
                go_simp
                with_reducible rfl
              rotate_left
              · simp only [Act.put, sA, sB, sC, i64_w, i32_w]
                rfl
              refine pure_ (i := 37) (N := some 155) (v := ?_) (a' := ?_) qq.m38 rfl rfl (any_of HT_.out (by kernel_rfl)) (fun _ _ _ h => h) (Or.inl ⟨by rfl, ?_⟩) ?_ ?_
              rotate_left
              · intro w'
                go_simp
                with_reducible rfl
              rotate_left
              · simp only [Act.put, sA, sB, sC, i64_w, i32_w]
                rfl
              refine pure_ (i := 38) (N := some 156) (v := undef) (a' := ?_) qq.m39 rfl rfl (any_of HT_.out (by kernel_rfl)) (fun _ _ _ h => h) (Or.inr ⟨by rfl, rfl⟩) ?_ ?_
              rotate_left
              · simp only [Act.put, sA, sB, sC, i64_w, i32_w]
                rfl
              refine pure_ (i := 39) (N := some 157) (v := undef) (a' := ?_) qq.m40 rfl rfl (any_of HT_.out (by kernel_rfl)) (fun _ _ _ h => h) (Or.inr ⟨by rfl, rfl⟩) ?_ ?_
              rotate_left
              · simp only [Act.put, sA, sB, sC, i64_w, i32_w]
                rfl
              refine pure_ (i := 40) (N := some 158) (v := undef) (a' := ?_) qq.m41 rfl rfl (any_of HT_.out (by kernel_rfl)) (fun _ _ _ h => h) (Or.inr ⟨by rfl, rfl⟩) ?_ ?_
              rotate_left
              · simp only [Act.put, sA, sB, sC, i64_w, i32_w]
                rfl
              refine pure_ (i := 41) (N := some 159) (v := ?_) (a' := ?_) qq.m42 rfl rfl (any_of HT_.out (by kernel_rfl)) (fun _ _ _ h => h) (Or.inl ⟨by rfl, ?_⟩) ?_ ?_
              rotate_left
              · intro w'
                go_simp
                with_reducible rfl
              rotate_left
              · simp only [Act.put, sA, sB, sC, i64_w, i32_w]
                rfl
              refine pure_ (i := 42) (N := some 160) (v := ?_) (a' := ?_) qq.m43 rfl rfl (any_of HT_.out (by kernel_rfl)) (fun _ _ _ h => h) (Or.inl ⟨by rfl, ?_⟩) ?_ ?_
              rotate_left
              · intro w'
                go_simp
                with_reducible rfl
              rotate_left
              · simp only [Act.put, sA, sB, sC, i64_w, i32_w]
                rfl
              refine pure_ (i := 43) (N := some 161) (v := ?_) (a' := ?_) qq.m44 rfl rfl (any_of HT_.out (by kernel_rfl)) (fun _ _ _ h => h) (Or.inl ⟨by rfl, ?_⟩) ?_ ?_
              rotate_left
              · intro w'
                go_simp
                with_reducible rfl
              rotate_left
              · simp only [Act.put, sA, sB, sC, i64_w, i32_w]
                rfl
              refine pure_ (i := 47) (N := some 165) (v := ?_) (a' := ?_) qq.m45 rfl rfl (any_of HT_.out (by kernel_rfl)) (fun _ _ _ h => h) (Or.inl ⟨by rfl, ?_⟩) ?_ ?_
              rotate_left
              · intro w'
                go_simp
                with_reducible rfl
              rotate_left
              · simp only [Act.put, sA, sB, sC, i64_w, i32_w]
                rfl
              refine take_ (i := 44) (N := some 162) (v := ?_) (a' := ?_) qq.m46 rfl rfl (take_ofW HT_.out HW_.out (by kernel_rfl)) (fun _ _ _ h => h) (Or.inl ⟨by rfl, ?_⟩) hh ?_ ?_
              rotate_left
              · rintro w' ⟨s0, s1, s2, s3, s4, s5, s6, s7, s8, s9⟩
                go_simp
                with_reducible rfl
              rotate_left
              · simp only [Act.put, sA, sB, sC, i64_w, i32_w]
                rfl
              refine take_ (i := 45) (N := some 163) (v := ?_) (a' := ?_) qq.m47 rfl rfl (take_ofW HT_.out HW_.out (by kernel_rfl)) (fun _ _ _ h => h) (Or.inl ⟨by rfl, ?_⟩) hh ?_ ?_
              rotate_left
              · rintro w' ⟨s0, s1, s2, s3, s4, s5, s6, s7, s8, s9⟩
                go_simp
                with_reducible rfl
              rotate_left
              · simp only [Act.put, sA, sB, sC, i64_w, i32_w]
                rfl
              refine one_ (i := 46) (N := some 164) qq.m48 rfl rfl (one_of HT_.out (by kernel_rfl)) (by decide) (fun K hK => ?_)
              refine goes_ Try.func22 (by kernel_rfl) rfl #[.agg #[.int .i64 a, .int .i64 m], .agg #[.int .i64 b, .int .i64 n]] (by rfl) rfl rfl (by simp only [List.map_toArray, List.map_cons, List.map_nil]; rfl) ?_
              with_reducible refine (span_Touch.calls a m b n true _ HT.out.touch).mono ?_
              rintro e w66 ⟨rfl, hb⟩
              refine ⟨_, rfl, ?_⟩
              refine hK.out _ _ ⟨(below_step hh.1 hb), (hh.2.1.keep hb), (keep hb hh.2.2.1), (keep hb hh.2.2.2.1), (keep hb hh.2.2.2.2.1), (keep hb hh.2.2.2.2.2.1), (keep hb hh.2.2.2.2.2.2.1), (keep hb hh.2.2.2.2.2.2.2.1), (keep hb hh.2.2.2.2.2.2.2.2.1), (keep hb hh.2.2.2.2.2.2.2.2.2)⟩ (fun hH2 => ?_)
              clear hK K hh
              try clear hb
              have hh := hH2
              clear hH2
              refine norm_ (a' := ?_) ?_ ?_
              rotate_left
              · show Act.put _ (some 164) _ = _
                simp only [Act.put, sA, sB, sC, i64_w, i32_w]
                rfl
              refine pure_ (i := 48) (N := some 166) (v := ?_) (a' := ?_) qq.m49 rfl rfl (any_of HT_.out (by kernel_rfl)) (fun _ _ _ h => h) (Or.inl ⟨by rfl, ?_⟩) ?_ ?_
              rotate_left
              · intro w'
                go_simp
                with_reducible rfl
              rotate_left
              · simp only [Act.put, sA, sB, sC, i64_w, i32_w]
                rfl
              refine pure_ (i := 49) (N := some 167) (v := ?_) (a' := ?_) qq.m50 rfl rfl (any_of HT_.out (by kernel_rfl)) (fun _ _ _ h => h) (Or.inl ⟨by rfl, ?_⟩) ?_ ?_
              rotate_left
              · intro w'
                go_simp
                with_reducible rfl
              rotate_left
              · simp only [Act.put, sA, sB, sC, i64_w, i32_w]
                rfl
              refine pure_ (i := 50) (N := some 168) (v := ?_) (a' := ?_) qq.m51 rfl rfl (any_of HT_.out (by kernel_rfl)) (fun _ _ _ h => h) (Or.inl ⟨by rfl, ?_⟩) ?_ ?_
              rotate_left
              · intro w'
                go_simp
                with_reducible rfl
              rotate_left
              · simp only [Act.put, sA, sB, sC, i64_w, i32_w]
                rfl
              refine pure_ (i := 51) (N := some 169) (v := ?_) (a' := ?_) qq.m52 rfl rfl (any_of HT_.out (by kernel_rfl)) (fun _ _ _ h => h) (Or.inl ⟨by rfl, ?_⟩) ?_ ?_
              rotate_left
              · intro w'
                go_simp
                with_reducible rfl
              rotate_left
              · simp only [Act.put, sA, sB, sC, i64_w, i32_w]
                rfl
              refine pure_ (i := 52) (N := some 170) (v := ?_) (a' := ?_) qq.m53 rfl rfl (any_of HT_.out (by kernel_rfl)) (fun _ _ _ h => h) (Or.inl ⟨by rfl, ?_⟩) ?_ ?_
              rotate_left
              · intro w'
                go_simp
                with_reducible rfl
              rotate_left
              · simp only [Act.put, sA, sB, sC, i64_w, i32_w]
                rfl
              refine pure_ (i := 53) (N := some 171) (v := ?_) (a' := ?_) qq.m54 rfl rfl (any_of HT_.out (by kernel_rfl)) (fun _ _ _ h => h) (Or.inl ⟨by rfl, ?_⟩) ?_ ?_
              rotate_left
              · intro w'
                go_simp
                with_reducible rfl
              rotate_left
              · simp only [Act.put, sA, sB, sC, i64_w, i32_w]
                rfl
              refine pure_ (i := 54) (N := some 172) (v := ?_) (a' := ?_) qq.m55 rfl rfl (any_of HT_.out (by kernel_rfl)) (fun _ _ _ h => h) (Or.inl ⟨by rfl, ?_⟩) ?_ ?_
              rotate_left
              · intro w'
                go_simp
                with_reducible rfl
              rotate_left
              · simp only [Act.put, sA, sB, sC, i64_w, i32_w]
                rfl
              refine pure_ (i := 55) (N := some 173) (v := ?_) (a' := ?_) qq.m56 rfl rfl (any_of HT_.out (by kernel_rfl)) (fun _ _ _ h => h) (Or.inl ⟨by rfl, ?_⟩) ?_ ?_
              rotate_left
              · intro w'
                go_simp
                with_reducible rfl
              rotate_left
              · simp only [Act.put, sA, sB, sC, i64_w, i32_w]
                rfl
              refine pure_ (i := 56) (N := some 174) (v := ?_) (a' := ?_) qq.m57 rfl rfl (any_of HT_.out (by kernel_rfl)) (fun _ _ _ h => h) (Or.inl ⟨by rfl, ?_⟩) ?_ ?_
              rotate_left
              · intro w'
                go_simp
                with_reducible rfl
              rotate_left
              · simp only [Act.put, sA, sB, sC, i64_w, i32_w]
                rfl
              refine pure_ (i := 57) (N := some 175) (v := ?_) (a' := ?_) qq.m58 rfl rfl (any_of HT_.out (by kernel_rfl)) (fun _ _ _ h => h) (Or.inl ⟨by rfl, ?_⟩) ?_ ?_
              rotate_left
              · intro w'
                go_simp
                with_reducible rfl
              rotate_left
              · simp only [Act.put, sA, sB, sC, i64_w, i32_w]
                rfl
              refine pure_ (i := 58) (N := some 176) (v := ?_) (a' := ?_) qq.m59 rfl rfl (any_of HT_.out (by kernel_rfl)) (fun _ _ _ h => h) (Or.inl ⟨by rfl, ?_⟩) ?_ ?_
              rotate_left
              · intro w'
                go_simp
                with_reducible rfl
              rotate_left
              · simp only [Act.put, sA, sB, sC, i64_w, i32_w]
                rfl
              refine pure_ (i := 59) (N := some 177) (v := undef) (a' := ?_) qq.m60 rfl rfl (any_of HT_.out (by kernel_rfl)) (fun _ _ _ h => h) (Or.inr ⟨by rfl, rfl⟩) ?_ ?_
              rotate_left
              · simp only [Act.put, sA, sB, sC, i64_w, i32_w]
                rfl
              refine pure_ (i := 60) (N := some 178) (v := undef) (a' := ?_) qq.m61 rfl rfl (any_of HT_.out (by kernel_rfl)) (fun _ _ _ h => h) (Or.inr ⟨by rfl, rfl⟩) ?_ ?_
              rotate_left
              · simp only [Act.put, sA, sB, sC, i64_w, i32_w]
                rfl
              refine pure_ (i := 61) (N := some 179) (v := undef) (a' := ?_) qq.m62 rfl rfl (any_of HT_.out (by kernel_rfl)) (fun _ _ _ h => h) (Or.inr ⟨by rfl, rfl⟩) ?_ ?_
              rotate_left
              · simp only [Act.put, sA, sB, sC, i64_w, i32_w]
                rfl
              refine pure_ (i := 62) (N := some 180) (v := ?_) (a' := ?_) qq.m63 rfl rfl (any_of HT_.out (by kernel_rfl)) (fun _ _ _ h => h) (Or.inl ⟨by rfl, ?_⟩) ?_ ?_
              rotate_left
              · intro w'
                go_simp
                with_reducible rfl
              rotate_left
              · simp only [Act.put, sA, sB, sC, i64_w, i32_w]
                rfl
              refine pure_ (i := 63) (N := some 181) (v := ?_) (a' := ?_) qq.m64 rfl rfl (any_of HT_.out (by kernel_rfl)) (fun _ _ _ h => h) (Or.inl ⟨by rfl, ?_⟩) ?_ ?_
              rotate_left
              · intro w'
                go_simp
                with_reducible rfl
              rotate_left
              · simp only [Act.put, sA, sB, sC, i64_w, i32_w]
                rfl
              refine done_ (done_of HT_.out (by kernel_rfl)) ?_
              replace HS := Aside0.mk hh.1
              replace ZC := Aside0.mk hh.2.1
              replace X0 := Aside0.mk hh.2.2.1
              replace X1 := Aside0.mk hh.2.2.2.1
              replace Y0 := Aside0.mk hh.2.2.2.2.1
              replace Y1 := Aside0.mk hh.2.2.2.2.2.1
              replace P0 := Aside0.mk hh.2.2.2.2.2.2.1
              replace P1 := Aside0.mk hh.2.2.2.2.2.2.2.1
              replace J0 := Aside0.mk hh.2.2.2.2.2.2.2.2.1
              replace J1 := Aside0.mk hh.2.2.2.2.2.2.2.2.2
              clear hh
              replace HB := Aside0.mk (below_step HB.out HS.out)
              replace A0 := Aside0.mk (A0.out.keep HS.out)
              replace A1 := Aside0.mk (A1.out.keep HS.out)
              replace ZA := Aside0.mk (ZA.out.keep HS.out)
              replace ZD := Aside0.mk (ZD.out.keep HS.out)
              replace M16 := Aside0.mk (M16.out.keep HS.out)
              replace J19 := Aside0.mk (J19.out.keep HS.out)
              replace HK := Aside0.mk ((HK.out.keep HS.out).top)
              replace VL := Aside0.mk (Kd.R_below VL.out HS.out)
              clear HS
              clear X0 X1 Y0 Y1
              clear P0 P1 J0 J1
              clear hval
              go_wp2_with fail
              go_meet
              case rel => exact ⟨rfl, HB, A0, A1, ZA, ZC, ZD, M16, J19, HK, VL⟩
            | false =>
              obtain ⟨hp0, hq0, hcb0⟩ := HT.out.no rfl
              subst hp0
              subst hq0
              subst hcb0
              cases vt with
              | true =>
                obtain ⟨hva, _⟩ := HT.out.vtb rfl
                subst hva
                as_aux_lemma =>
                have X0 := Aside0.mk (A0.out.cell (i := 0) (v := .int .i64 a) rfl)
                have X1 := Aside0.mk (A0.out.cell (i := 1) (v := .int .i64 m) rfl)
                have Y0 := Aside0.mk (A1.out.cell (i := 0) (v := .int .i64 b) rfl)
                have Y1 := Aside0.mk (A1.out.cell (i := 1) (v := .int .i64 n) rfl)
                have P0 := Aside0.mk (M16.out.cell (i := 0) (v := .int .i64 0) rfl)
                have P1 := Aside0.mk (M16.out.cell (i := 1) (v := .int .i64 0) rfl)
                have J0 := Aside0.mk (J19.out.cell (i := 0) (v := .int .i64 j1) rfl)
                have J1 := Aside0.mk (J19.out.cell (i := 1) (v := .int .i64 j2) rfl)
                have hval : Aside0 (span_Valid.f a m bl = some (decide (en ≤ bl))) := ⟨by rw [valid_any]; congr 1; rw [decide_eq_decide]; have h1 := HT.out.a1 rfl; have h2 := of_decide_eq_true (Option.some.inj ((rwhole_eq a m).symm.trans HT.out.wa)); exact ⟨fun h => by rw [h1.1]; exact h.2, fun h => ⟨h2, by rw [h1.1] at h; exact h⟩⟩⟩
                have HS : Aside0 (Below wc.heap.size wc wc) := ⟨Below.refl _ _⟩
                as_aux_lemma =>
                refine start_ (n := 64) (S := fun w' => Below wc.heap.size wc w' ∧ Blk w' g11 30 (setArr u) ∧ w'.cell? ⟨g0, 0, none⟩ = some (.int .i64 a) ∧ w'.cell? ⟨g0, 1, none⟩ = some (.int .i64 m) ∧ w'.cell? ⟨g1, 0, none⟩ = some (.int .i64 b) ∧ w'.cell? ⟨g1, 1, none⟩ = some (.int .i64 n) ∧ w'.cell? ⟨g16, 0, none⟩ = some (.int .i64 0) ∧ w'.cell? ⟨g16, 1, none⟩ = some (.int .i64 0) ∧ w'.cell? ⟨g19, 0, none⟩ = some (.int .i64 j1) ∧ w'.cell? ⟨g19, 1, none⟩ = some (.int .i64 j2)) (ds := []) #[false, false, false, false, false, false, false, false, false, false, false, false, false, false, false, false, false, false, false, false, false, false, false, false, false, false, false, false, false, false, false, false, false, false, false, false, false, false, false, false, false, false, false, false, false, false, false, false, false, false, false, false, false, false, false, false, false, false, false, false, false, false, false, false] (by kernel_rfl) rfl rfl ⟨(below_drew1 HS.out), (ZC.out.keep (below_drew1 (Below.refl _ _))), (keep (below_drew1 (Below.refl _ _)) X0.out), (keep (below_drew1 (Below.refl _ _)) X1.out), (keep (below_drew1 (Below.refl _ _)) Y0.out), (keep (below_drew1 (Below.refl _ _)) Y1.out), (keep (below_drew1 (Below.refl _ _)) P0.out), (keep (below_drew1 (Below.refl _ _)) P1.out), (keep (below_drew1 (Below.refl _ _)) J0.out), (keep (below_drew1 (Below.refl _ _)) J1.out)⟩ (fun hh => ?_)
                refine with_tabW (T := qq.T21) (B := qq.B21) (by kernel_rfl) qq.bits21 (fun HT_ HW_ => ?_)
                refine pure_ (i := 1) (N := some 119) (v := ?_) (a' := ?_) qq.m0 rfl rfl (any_of HT_.out (by kernel_rfl)) (fun _ _ _ h => h) (Or.inl ⟨by rfl, ?_⟩) ?_ ?_
                rotate_left
                · intro w'
                  go_simp
                  with_reducible rfl
                rotate_left
                · simp only [Act.put, sA, sB, sC, i64_w, i32_w]
                  rfl
                refine pure_ (i := 3) (N := some 121) (v := ?_) (a' := ?_) qq.m1 rfl rfl (any_of HT_.out (by kernel_rfl)) (fun _ _ _ h => h) (Or.inl ⟨by rfl, ?_⟩) ?_ ?_
                rotate_left
                · intro w'
                  go_simp
                  with_reducible rfl
                rotate_left
                · simp only [Act.put, sA, sB, sC, i64_w, i32_w]
                  rfl
                refine take_ (i := 0) (N := some 118) (v := ?_) (a' := ?_) qq.m2 rfl rfl (take_ofW HT_.out HW_.out (by kernel_rfl)) (fun _ _ _ h => h) (Or.inl ⟨by rfl, ?_⟩) hh ?_ ?_
                rotate_left
                · rintro w' ⟨s0, s1, s2, s3, s4, s5, s6, s7, s8, s9⟩
                  go_simp
                  with_reducible rfl
                rotate_left
                · simp only [Act.put, sA, sB, sC, i64_w, i32_w]
                  rfl
                refine one_ (i := 2) (N := some 120) qq.m3 rfl rfl (one_of HT_.out (by kernel_rfl)) (by decide) (fun K hK => ?_)
                refine goes_ Try.func18 (by kernel_rfl) rfl #[.agg #[.int .i64 a, .int .i64 m], .int .i64 bl] (by rfl) rfl rfl (by simp only [List.map_toArray, List.map_cons, List.map_nil]; rfl) ?_
                with_reducible refine (span_Valid.calls a m bl (decide (en ≤ bl)) _ hval.out).mono ?_
                rintro e w60 ⟨rfl, hb⟩
                refine ⟨_, rfl, ?_⟩
                refine hK.out _ _ ⟨(below_step hh.1 hb), (hh.2.1.keep hb), (keep hb hh.2.2.1), (keep hb hh.2.2.2.1), (keep hb hh.2.2.2.2.1), (keep hb hh.2.2.2.2.2.1), (keep hb hh.2.2.2.2.2.2.1), (keep hb hh.2.2.2.2.2.2.2.1), (keep hb hh.2.2.2.2.2.2.2.2.1), (keep hb hh.2.2.2.2.2.2.2.2.2)⟩ (fun hH2 => ?_)
                clear hK K hh
                try clear hb
                have hh := hH2
                clear hH2
                refine norm_ (a' := ?_) ?_ ?_
                rotate_left
                · show Act.put _ (some 120) _ = _
                  simp only [Act.put, sA, sB, sC, i64_w, i32_w]
                  rfl
                refine pure_ (i := 4) (N := some 122) (v := ?_) (a' := ?_) qq.m4 rfl rfl (any_of HT_.out (by kernel_rfl)) (fun _ _ _ h => h) (Or.inl ⟨by rfl, ?_⟩) ?_ ?_
                rotate_left
                · intro w'
                  go_simp
                  with_reducible rfl
                rotate_left
                · simp only [Act.put, sA, sB, sC, i64_w, i32_w]
                  rfl
                refine pure_ (i := 5) (N := some 123) (v := ?_) (a' := ?_) qq.m5 rfl rfl (any_of HT_.out (by kernel_rfl)) (fun _ _ _ h => h) (Or.inl ⟨by rfl, ?_⟩) ?_ ?_
                rotate_left
                · intro w'
                  go_simp
                  with_reducible rfl
                rotate_left
                · simp only [Act.put, sA, sB, sC, i64_w, i32_w]
                  rfl
                refine pure_ (i := 6) (N := some 124) (v := ?_) (a' := ?_) qq.m6 rfl rfl (any_of HT_.out (by kernel_rfl)) (fun _ _ _ h => h) (Or.inl ⟨by rfl, ?_⟩) ?_ ?_
                rotate_left
                · intro w'
                  go_simp
                  with_reducible rfl
                rotate_left
                · simp only [Act.put, sA, sB, sC, i64_w, i32_w]
                  rfl
                refine pure_ (i := 7) (N := some 125) (v := ?_) (a' := ?_) qq.m7 rfl rfl (any_of HT_.out (by kernel_rfl)) (fun _ _ _ h => h) (Or.inl ⟨by rfl, ?_⟩) ?_ ?_
                rotate_left
                · intro w'
                  go_simp
                  with_reducible rfl
                rotate_left
                · simp only [Act.put, sA, sB, sC, i64_w, i32_w]
                  rfl
                refine pure_ (i := 8) (N := some 126) (v := ?_) (a' := ?_) qq.m8 rfl rfl (any_of HT_.out (by kernel_rfl)) (fun _ _ _ h => h) (Or.inl ⟨by rfl, ?_⟩) ?_ ?_
                rotate_left
                · intro w'
                  go_simp
                  with_reducible rfl
                rotate_left
                · simp only [Act.put, sA, sB, sC, i64_w, i32_w]
                  rfl
                refine pure_ (i := 9) (N := some 127) (v := ?_) (a' := ?_) qq.m9 rfl rfl (any_of HT_.out (by kernel_rfl)) (fun _ _ _ h => h) (Or.inl ⟨by rfl, ?_⟩) ?_ ?_
                rotate_left
                · intro w'
                  go_simp
                  with_reducible rfl
                rotate_left
                · simp only [Act.put, sA, sB, sC, i64_w, i32_w]
                  rfl
                refine pure_ (i := 10) (N := some 128) (v := ?_) (a' := ?_) qq.m10 rfl rfl (any_of HT_.out (by kernel_rfl)) (fun _ _ _ h => h) (Or.inl ⟨by rfl, ?_⟩) ?_ ?_
                rotate_left
                · intro w'
                  go_simp
                  with_reducible rfl
                rotate_left
                · simp only [Act.put, sA, sB, sC, i64_w, i32_w]
                  rfl
                refine pure_ (i := 13) (N := some 131) (v := ?_) (a' := ?_) qq.m11 rfl rfl (any_of HT_.out (by kernel_rfl)) (fun _ _ _ h => h) (Or.inl ⟨by rfl, ?_⟩) ?_ ?_
                rotate_left
                · intro w'
                  go_simp
                  with_reducible rfl
                rotate_left
                · simp only [Act.put, sA, sB, sC, i64_w, i32_w]
                  rfl
                refine take_ (i := 11) (N := some 129) (v := ?_) (a' := ?_) qq.m12 rfl rfl (take_ofW HT_.out HW_.out (by kernel_rfl)) (fun _ _ _ h => h) (Or.inl ⟨by rfl, ?_⟩) hh ?_ ?_
                rotate_left
                · rintro w' ⟨s0, s1, s2, s3, s4, s5, s6, s7, s8, s9⟩
                  go_simp
                  with_reducible rfl
                rotate_left
                · simp only [Act.put, sA, sB, sC, i64_w, i32_w]
                  rfl
                refine one_ (i := 12) (N := some 130) qq.m13 rfl rfl (one_of HT_.out (by kernel_rfl)) (by decide) (fun K hK => ?_)
                refine goes_ Try.func24 (by kernel_rfl) rfl #[.agg #[.int .i64 a, .int .i64 m]] (by rfl) rfl rfl (by simp only [List.map_toArray, List.map_cons, List.map_nil]; rfl) ?_
                with_reducible refine (span_End.calls a m en _ HT.out.end_).mono ?_
                rintro e w61 ⟨rfl, hb⟩
                refine ⟨_, rfl, ?_⟩
                refine hK.out _ _ ⟨(below_step hh.1 hb), (hh.2.1.keep hb), (keep hb hh.2.2.1), (keep hb hh.2.2.2.1), (keep hb hh.2.2.2.2.1), (keep hb hh.2.2.2.2.2.1), (keep hb hh.2.2.2.2.2.2.1), (keep hb hh.2.2.2.2.2.2.2.1), (keep hb hh.2.2.2.2.2.2.2.2.1), (keep hb hh.2.2.2.2.2.2.2.2.2)⟩ (fun hH2 => ?_)
                clear hK K hh
                try clear hb
                have hh := hH2
                clear hH2
                refine norm_ (a' := ?_) ?_ ?_
                rotate_left
                · show Act.put _ (some 130) _ = _
                  simp only [Act.put, sA, sB, sC, i64_w, i32_w]
                  rfl
                refine pure_ (i := 14) (N := some 132) (v := ?_) (a' := ?_) qq.m14 rfl rfl (any_of HT_.out (by kernel_rfl)) (fun _ _ _ h => h) (Or.inl ⟨by rfl, ?_⟩) ?_ ?_
                rotate_left
                · intro w'
                  go_simp
                  with_reducible rfl
                rotate_left
                · simp only [Act.put, sA, sB, sC, i64_w, i32_w]
                  rfl
                refine pure_ (i := 15) (N := some 133) (v := ?_) (a' := ?_) qq.m15 rfl rfl (any_of HT_.out (by kernel_rfl)) (fun _ _ _ h => h) (Or.inl ⟨by rfl, ?_⟩) ?_ ?_
                rotate_left
                · intro w'
                  go_simp
                  with_reducible rfl
                rotate_left
                · simp only [Act.put, sA, sB, sC, i64_w, i32_w]
                  rfl
                refine pure_ (i := 16) (N := some 134) (v := ?_) (a' := ?_) qq.m16 rfl rfl (any_of HT_.out (by kernel_rfl)) (fun _ _ _ h => h) (Or.inl ⟨by rfl, ?_⟩) ?_ ?_
                rotate_left
                · intro w'
                  go_simp
                  with_reducible rfl
                rotate_left
                · simp only [Act.put, sA, sB, sC, i64_w, i32_w]
                  rfl
                refine pure_ (i := 17) (N := some 135) (v := ?_) (a' := ?_) qq.m17 rfl rfl (any_of HT_.out (by kernel_rfl)) (fun _ _ _ h => h) (Or.inl ⟨by rfl, ?_⟩) ?_ ?_
                rotate_left
                · intro w'
                  go_simp
                  with_reducible rfl
                rotate_left
                · simp only [Act.put, sA, sB, sC, i64_w, i32_w]
                  rfl
                refine take_ (i := 18) (N := some 136) (v := ?_) (a' := ?_) qq.m18 rfl rfl (take_ofW HT_.out HW_.out (by kernel_rfl)) (fun _ _ _ h => h) (Or.inl ⟨by rfl, ?_⟩) hh ?_ ?_
                rotate_left
                · rintro w' ⟨s0, s1, s2, s3, s4, s5, s6, s7, s8, s9⟩
                  refine row_yields 30 (.tmp 11) ?_ g11 ?_ 30 (setArr u) (0, 0) _ s1.hd Try.underlying30 rfl (by rw [setArr_size, Hul.out] <;> exact info30)
                  · rfl
                  · rfl
                rotate_left
                · simp only [Act.put, sA, sB, sC, i64_w, i32_w]
                  rfl
                refine one_ (i := 19) (N := some 137) qq.m19 rfl rfl (one_of HT_.out (by kernel_rfl)) (by decide) (fun K hK => ?_)
                refine goes_ Try.func25 (by kernel_rfl) rfl #[.agg (setArr u)] (by rfl) rfl rfl (by simp only [List.map_toArray, List.map_cons, List.map_nil]; rfl) ?_
                with_reducible refine (set_cnt u 0 Hul.out Huc.out _).mono ?_
                rintro e w62 ⟨rfl, hb⟩
                refine ⟨_, rfl, ?_⟩
                refine hK.out _ _ ⟨(below_step hh.1 hb), (hh.2.1.keep hb), (keep hb hh.2.2.1), (keep hb hh.2.2.2.1), (keep hb hh.2.2.2.2.1), (keep hb hh.2.2.2.2.2.1), (keep hb hh.2.2.2.2.2.2.1), (keep hb hh.2.2.2.2.2.2.2.1), (keep hb hh.2.2.2.2.2.2.2.2.1), (keep hb hh.2.2.2.2.2.2.2.2.2)⟩ (fun hH2 => ?_)
                clear hK K hh
                try clear hb
                have hh := hH2
                clear hH2
                refine norm_ (a' := ?_) ?_ ?_
                rotate_left
                · show Act.put _ (some 137) _ = _
                  simp only [Act.put, sA, sB, sC, i64_w, i32_w]
                  rfl
                refine pure_ (i := 20) (N := some 138) (v := ?_) (a' := ?_) qq.m20 rfl rfl (any_of HT_.out (by kernel_rfl)) (fun _ _ _ h => h) (Or.inl ⟨by rfl, ?_⟩) ?_ ?_
                rotate_left
                · intro w'
                  go_simp
                  with_reducible rfl
                rotate_left
                · simp only [Act.put, sA, sB, sC, i64_w, i32_w]
                  rfl
                refine pure_ (i := 21) (N := some 139) (v := ?_) (a' := ?_) qq.m21 rfl rfl (any_of HT_.out (by kernel_rfl)) (fun _ _ _ h => h) (Or.inl ⟨by rfl, ?_⟩) ?_ ?_
                rotate_left
                · intro w'
                  go_simp
                  with_reducible rfl
                rotate_left
                · simp only [Act.put, sA, sB, sC, i64_w, i32_w]
                  rfl
                refine pure_ (i := 22) (N := some 140) (v := ?_) (a' := ?_) qq.m22 rfl rfl (any_of HT_.out (by kernel_rfl)) (fun _ _ _ h => h) (Or.inl ⟨by rfl, ?_⟩) ?_ ?_
                rotate_left
                · intro w'
                  go_simp
                  with_reducible rfl
                rotate_left
                · simp only [Act.put, sA, sB, sC, i64_w, i32_w]
                  rfl
                refine pure_ (i := 23) (N := some 141) (v := ?_) (a' := ?_) qq.m23 rfl rfl (any_of HT_.out (by kernel_rfl)) (fun _ _ _ h => h) (Or.inl ⟨by rfl, ?_⟩) ?_ ?_
                rotate_left
                · intro w'
                  go_simp
                  with_reducible rfl
                rotate_left
                · simp only [Act.put, sA, sB, sC, i64_w, i32_w]
                  rfl
                refine pure_ (i := 24) (N := some 142) (v := ?_) (a' := ?_) qq.m24 rfl rfl (any_of HT_.out (by kernel_rfl)) (fun _ _ _ h => h) (Or.inl ⟨by rfl, ?_⟩) ?_ ?_
                rotate_left
                · intro w'
                  go_simp
                  with_reducible rfl
                rotate_left
                · simp only [Act.put, sA, sB, sC, i64_w, i32_w]
                  rfl
                refine pure_ (i := 25) (N := some 143) (v := ?_) (a' := ?_) qq.m25 rfl rfl (any_of HT_.out (by kernel_rfl)) (fun _ _ _ h => h) (Or.inl ⟨by rfl, ?_⟩) ?_ ?_
                rotate_left
                · intro w'
                  go_simp
                  with_reducible rfl
                rotate_left
                · simp only [Act.put, sA, sB, sC, i64_w, i32_w]
                  rfl
                refine pure_ (i := 26) (N := some 144) (v := undef) (a' := ?_) qq.m26 rfl rfl (any_of HT_.out (by kernel_rfl)) (fun _ _ _ h => h) (Or.inr ⟨by rfl, rfl⟩) ?_ ?_
                rotate_left
                · simp only [Act.put, sA, sB, sC, i64_w, i32_w]
                  rfl
                refine pure_ (i := 27) (N := some 145) (v := undef) (a' := ?_) qq.m65 rfl rfl (any_of HT_.out (by kernel_rfl)) (fun _ _ _ h => h) (Or.inr ⟨by rfl, rfl⟩) ?_ ?_
                rotate_left
                · simp only [Act.put, sA, sB, sC, i64_w, i32_w]
                  rfl
                refine pure_ (i := 28) (N := some 146) (v := undef) (a' := ?_) qq.m29 rfl rfl (any_of HT_.out (by kernel_rfl)) (fun _ _ _ h => h) (Or.inr ⟨by rfl, rfl⟩) ?_ ?_
                rotate_left
                · simp only [Act.put, sA, sB, sC, i64_w, i32_w]
                  rfl
                refine pure_ (i := 29) (N := some 147) (v := undef) (a' := ?_) qq.m28 rfl rfl (any_of HT_.out (by kernel_rfl)) (fun _ _ _ h => h) (Or.inr ⟨by rfl, rfl⟩) ?_ ?_
                rotate_left
                · simp only [Act.put, sA, sB, sC, i64_w, i32_w]
                  rfl
                refine pure_ (i := 30) (N := some 148) (v := undef) (a' := ?_) qq.m31 rfl rfl (any_of HT_.out (by kernel_rfl)) (fun _ _ _ h => h) (Or.inr ⟨by rfl, rfl⟩) ?_ ?_
                rotate_left
                · simp only [Act.put, sA, sB, sC, i64_w, i32_w]
                  rfl
                refine pure_ (i := 31) (N := some 149) (v := undef) (a' := ?_) qq.m32 rfl rfl (any_of HT_.out (by kernel_rfl)) (fun _ _ _ h => h) (Or.inr ⟨by rfl, rfl⟩) ?_ ?_
                rotate_left
                · simp only [Act.put, sA, sB, sC, i64_w, i32_w]
                  rfl
                refine pure_ (i := 32) (N := some 150) (v := ?_) (a' := ?_) qq.m33 rfl rfl (any_of HT_.out (by kernel_rfl)) (fun _ _ _ h => h) (Or.inl ⟨by rfl, ?_⟩) ?_ ?_
                rotate_left
                · intro w'
                  go_simp
                  with_reducible rfl
                rotate_left
                · simp only [Act.put, sA, sB, sC, i64_w, i32_w]
                  rfl
                refine pure_ (i := 33) (N := some 151) (v := ?_) (a' := ?_) qq.m34 rfl rfl (any_of HT_.out (by kernel_rfl)) (fun _ _ _ h => h) (Or.inl ⟨by rfl, ?_⟩) ?_ ?_
                rotate_left
                · intro w'
                  go_simp
                  with_reducible rfl
                rotate_left
                · simp only [Act.put, sA, sB, sC, i64_w, i32_w]
                  rfl
                refine pure_ (i := 34) (N := some 152) (v := ?_) (a' := ?_) qq.m35 rfl rfl (any_of HT_.out (by kernel_rfl)) (fun _ _ _ h => h) (Or.inl ⟨by rfl, ?_⟩) ?_ ?_
                rotate_left
                · intro w'
                  go_simp
                  with_reducible rfl
                rotate_left
                · simp only [Act.put, sA, sB, sC, i64_w, i32_w]
                  rfl
                refine pure_ (i := 35) (N := some 153) (v := ?_) (a' := ?_) qq.m36 rfl rfl (any_of HT_.out (by kernel_rfl)) (fun _ _ _ h => h) (Or.inl ⟨by rfl, ?_⟩) ?_ ?_
                rotate_left
                · intro w'
                  go_simp
                  with_reducible rfl
                rotate_left
                · simp only [Act.put, sA, sB, sC, i64_w, i32_w]
                  rfl
                refine pure_ (i := 36) (N := some 154) (v := ?_) (a' := ?_) qq.m37 rfl rfl (any_of HT_.out (by kernel_rfl)) (fun _ _ _ h => h) (Or.inl ⟨by rfl, ?_⟩) ?_ ?_
                rotate_left
                · intro w'
                  go_simp
                  with_reducible rfl
                rotate_left
                · simp only [Act.put, sA, sB, sC, i64_w, i32_w]
                  rfl
                refine pure_ (i := 37) (N := some 155) (v := ?_) (a' := ?_) qq.m38 rfl rfl (any_of HT_.out (by kernel_rfl)) (fun _ _ _ h => h) (Or.inl ⟨by rfl, ?_⟩) ?_ ?_
                rotate_left
                · intro w'
                  go_simp
                  with_reducible rfl
                rotate_left
                · simp only [Act.put, sA, sB, sC, i64_w, i32_w]
                  rfl
                refine pure_ (i := 39) (N := some 157) (v := ?_) (a' := ?_) qq.m66 rfl rfl (any_of HT_.out (by kernel_rfl)) (fun _ _ _ h => h) (Or.inl ⟨by rfl, ?_⟩) ?_ ?_
                rotate_left
                · intro w'
                  go_simp
                  with_reducible rfl
                rotate_left
                · simp only [Act.put, sA, sB, sC, i64_w, i32_w]
                  rfl
                refine take_ (i := 38) (N := some 156) (v := ?_) (a' := ?_) qq.m40 rfl rfl (take_ofW HT_.out HW_.out (by kernel_rfl)) (fun _ _ _ h => h) (Or.inl ⟨by rfl, ?_⟩) hh ?_ ?_
                rotate_left
                · rintro w' ⟨s0, s1, s2, s3, s4, s5, s6, s7, s8, s9⟩
                  go_simp
                  with_reducible rfl
                rotate_left
                · simp only [Act.put, sA, sB, sC, i64_w, i32_w]
                  rfl
                refine pure_ (i := 40) (N := some 158) (v := ?_) (a' := ?_) qq.m41 rfl rfl (any_of HT_.out (by kernel_rfl)) (fun _ _ _ h => h) (Or.inl ⟨by rfl, ?_⟩) ?_ ?_
                rotate_left
                · intro w'
                  go_simp
                  with_reducible rfl
                rotate_left
                · simp only [Act.put, sA, sB, sC, i64_w, i32_w]
                  rfl
                refine pure_ (i := 41) (N := some 159) (v := ?_) (a' := ?_) qq.m42 rfl rfl (any_of HT_.out (by kernel_rfl)) (fun _ _ _ h => h) (Or.inl ⟨by rfl, ?_⟩) ?_ ?_
                rotate_left
                · intro w'
                  go_simp
                  with_reducible rfl
                rotate_left
                · simp only [Act.put, sA, sB, sC, i64_w, i32_w]
                  rfl
                refine pure_ (i := 42) (N := some 160) (v := ?_) (a' := ?_) qq.m43 rfl rfl (any_of HT_.out (by kernel_rfl)) (fun _ _ _ h => h) (Or.inl ⟨by rfl, ?_⟩) ?_ ?_
                rotate_left
                · intro w'
                  go_simp
                  with_reducible rfl
                rotate_left
                · simp only [Act.put, sA, sB, sC, i64_w, i32_w]
                  rfl
                refine pure_ (i := 43) (N := some 161) (v := ?_) (a' := ?_) qq.m44 rfl rfl (any_of HT_.out (by kernel_rfl)) (fun _ _ _ h => h) (Or.inl ⟨by rfl, ?_⟩) ?_ ?_
                rotate_left
                · intro w'
                  go_simp
                  with_reducible rfl
                rotate_left
                · simp only [Act.put, sA, sB, sC, i64_w, i32_w]
                  rfl
                refine pure_ (i := 47) (N := some 165) (v := ?_) (a' := ?_) qq.m45 rfl rfl (any_of HT_.out (by kernel_rfl)) (fun _ _ _ h => h) (Or.inl ⟨by rfl, ?_⟩) ?_ ?_
                rotate_left
                · intro w'
                  go_simp
                  with_reducible rfl
                rotate_left
                · simp only [Act.put, sA, sB, sC, i64_w, i32_w]
                  rfl
                refine take_ (i := 44) (N := some 162) (v := ?_) (a' := ?_) qq.m46 rfl rfl (take_ofW HT_.out HW_.out (by kernel_rfl)) (fun _ _ _ h => h) (Or.inl ⟨by rfl, ?_⟩) hh ?_ ?_
                rotate_left
                · rintro w' ⟨s0, s1, s2, s3, s4, s5, s6, s7, s8, s9⟩
                  go_simp
                  with_reducible rfl
                rotate_left
                · simp only [Act.put, sA, sB, sC, i64_w, i32_w]
                  rfl
                refine take_ (i := 45) (N := some 163) (v := ?_) (a' := ?_) qq.m47 rfl rfl (take_ofW HT_.out HW_.out (by kernel_rfl)) (fun _ _ _ h => h) (Or.inl ⟨by rfl, ?_⟩) hh ?_ ?_
                rotate_left
                · rintro w' ⟨s0, s1, s2, s3, s4, s5, s6, s7, s8, s9⟩
                  go_simp
                  with_reducible rfl
                rotate_left
                · simp only [Act.put, sA, sB, sC, i64_w, i32_w]
                  rfl
                refine one_ (i := 46) (N := some 164) qq.m48 rfl rfl (one_of HT_.out (by kernel_rfl)) (by decide) (fun K hK => ?_)
                refine goes_ Try.func22 (by kernel_rfl) rfl #[.agg #[.int .i64 a, .int .i64 m], .agg #[.int .i64 b, .int .i64 n]] (by rfl) rfl rfl (by simp only [List.map_toArray, List.map_cons, List.map_nil]; rfl) ?_
                with_reducible refine (span_Touch.calls a m b n true _ HT.out.touch).mono ?_
                rintro e w66 ⟨rfl, hb⟩
                refine ⟨_, rfl, ?_⟩
                refine hK.out _ _ ⟨(below_step hh.1 hb), (hh.2.1.keep hb), (keep hb hh.2.2.1), (keep hb hh.2.2.2.1), (keep hb hh.2.2.2.2.1), (keep hb hh.2.2.2.2.2.1), (keep hb hh.2.2.2.2.2.2.1), (keep hb hh.2.2.2.2.2.2.2.1), (keep hb hh.2.2.2.2.2.2.2.2.1), (keep hb hh.2.2.2.2.2.2.2.2.2)⟩ (fun hH2 => ?_)
                clear hK K hh
                try clear hb
                have hh := hH2
                clear hH2
                refine norm_ (a' := ?_) ?_ ?_
                rotate_left
                · show Act.put _ (some 164) _ = _
                  simp only [Act.put, sA, sB, sC, i64_w, i32_w]
                  rfl
                refine pure_ (i := 48) (N := some 166) (v := ?_) (a' := ?_) qq.m49 rfl rfl (any_of HT_.out (by kernel_rfl)) (fun _ _ _ h => h) (Or.inl ⟨by rfl, ?_⟩) ?_ ?_
                rotate_left
                · intro w'
                  go_simp
                  with_reducible rfl
                rotate_left
                · simp only [Act.put, sA, sB, sC, i64_w, i32_w]
                  rfl
                refine pure_ (i := 49) (N := some 167) (v := ?_) (a' := ?_) qq.m50 rfl rfl (any_of HT_.out (by kernel_rfl)) (fun _ _ _ h => h) (Or.inl ⟨by rfl, ?_⟩) ?_ ?_
                rotate_left
                · intro w'
                  go_simp
                  with_reducible rfl
                rotate_left
                · simp only [Act.put, sA, sB, sC, i64_w, i32_w]
                  rfl
                refine pure_ (i := 50) (N := some 168) (v := ?_) (a' := ?_) qq.m51 rfl rfl (any_of HT_.out (by kernel_rfl)) (fun _ _ _ h => h) (Or.inl ⟨by rfl, ?_⟩) ?_ ?_
                rotate_left
                · intro w'
                  go_simp
                  with_reducible rfl
                rotate_left
                · simp only [Act.put, sA, sB, sC, i64_w, i32_w]
                  rfl
                refine pure_ (i := 51) (N := some 169) (v := ?_) (a' := ?_) qq.m52 rfl rfl (any_of HT_.out (by kernel_rfl)) (fun _ _ _ h => h) (Or.inl ⟨by rfl, ?_⟩) ?_ ?_
                rotate_left
                · intro w'
                  go_simp
                  with_reducible rfl
                rotate_left
                · simp only [Act.put, sA, sB, sC, i64_w, i32_w]
                  rfl
                refine pure_ (i := 52) (N := some 170) (v := ?_) (a' := ?_) qq.m53 rfl rfl (any_of HT_.out (by kernel_rfl)) (fun _ _ _ h => h) (Or.inl ⟨by rfl, ?_⟩) ?_ ?_
                rotate_left
                · intro w'
                  go_simp
                  with_reducible rfl
                rotate_left
                · simp only [Act.put, sA, sB, sC, i64_w, i32_w]
                  rfl
                refine pure_ (i := 53) (N := some 171) (v := ?_) (a' := ?_) qq.m54 rfl rfl (any_of HT_.out (by kernel_rfl)) (fun _ _ _ h => h) (Or.inl ⟨by rfl, ?_⟩) ?_ ?_
                rotate_left
                · intro w'
                  go_simp
                  with_reducible rfl
                rotate_left
                · simp only [Act.put, sA, sB, sC, i64_w, i32_w]
                  rfl
                refine pure_ (i := 54) (N := some 172) (v := ?_) (a' := ?_) qq.m55 rfl rfl (any_of HT_.out (by kernel_rfl)) (fun _ _ _ h => h) (Or.inl ⟨by rfl, ?_⟩) ?_ ?_
                rotate_left
                · intro w'
                  go_simp
                  with_reducible rfl
                rotate_left
                · simp only [Act.put, sA, sB, sC, i64_w, i32_w]
                  rfl
                refine pure_ (i := 55) (N := some 173) (v := ?_) (a' := ?_) qq.m56 rfl rfl (any_of HT_.out (by kernel_rfl)) (fun _ _ _ h => h) (Or.inl ⟨by rfl, ?_⟩) ?_ ?_
                rotate_left
                · intro w'
                  go_simp
                  with_reducible rfl
                rotate_left
                · simp only [Act.put, sA, sB, sC, i64_w, i32_w]
                  rfl
                refine pure_ (i := 56) (N := some 174) (v := ?_) (a' := ?_) qq.m57 rfl rfl (any_of HT_.out (by kernel_rfl)) (fun _ _ _ h => h) (Or.inl ⟨by rfl, ?_⟩) ?_ ?_
                rotate_left
                · intro w'
                  go_simp
                  with_reducible rfl
                rotate_left
                · simp only [Act.put, sA, sB, sC, i64_w, i32_w]
                  rfl
                refine pure_ (i := 57) (N := some 175) (v := ?_) (a' := ?_) qq.m58 rfl rfl (any_of HT_.out (by kernel_rfl)) (fun _ _ _ h => h) (Or.inl ⟨by rfl, ?_⟩) ?_ ?_
                rotate_left
                · intro w'
                  go_simp
                  with_reducible rfl
                rotate_left
                · simp only [Act.put, sA, sB, sC, i64_w, i32_w]
                  rfl
                refine pure_ (i := 58) (N := some 176) (v := ?_) (a' := ?_) qq.m59 rfl rfl (any_of HT_.out (by kernel_rfl)) (fun _ _ _ h => h) (Or.inl ⟨by rfl, ?_⟩) ?_ ?_
                rotate_left
                · intro w'
                  go_simp
                  with_reducible rfl
                rotate_left
                · simp only [Act.put, sA, sB, sC, i64_w, i32_w]
                  rfl
                refine pure_ (i := 59) (N := some 177) (v := undef) (a' := ?_) qq.m60 rfl rfl (any_of HT_.out (by kernel_rfl)) (fun _ _ _ h => h) (Or.inr ⟨by rfl, rfl⟩) ?_ ?_
                rotate_left
                · simp only [Act.put, sA, sB, sC, i64_w, i32_w]
                  rfl
                refine pure_ (i := 60) (N := some 178) (v := undef) (a' := ?_) qq.m61 rfl rfl (any_of HT_.out (by kernel_rfl)) (fun _ _ _ h => h) (Or.inr ⟨by rfl, rfl⟩) ?_ ?_
                rotate_left
                · simp only [Act.put, sA, sB, sC, i64_w, i32_w]
                  rfl
                refine pure_ (i := 61) (N := some 179) (v := undef) (a' := ?_) qq.m62 rfl rfl (any_of HT_.out (by kernel_rfl)) (fun _ _ _ h => h) (Or.inr ⟨by rfl, rfl⟩) ?_ ?_
                rotate_left
                · simp only [Act.put, sA, sB, sC, i64_w, i32_w]
                  rfl
                refine pure_ (i := 62) (N := some 180) (v := ?_) (a' := ?_) qq.m63 rfl rfl (any_of HT_.out (by kernel_rfl)) (fun _ _ _ h => h) (Or.inl ⟨by rfl, ?_⟩) ?_ ?_
                rotate_left
                · intro w'
                  go_simp
                  with_reducible rfl
                rotate_left
                · simp only [Act.put, sA, sB, sC, i64_w, i32_w]
                  rfl
                refine pure_ (i := 63) (N := some 181) (v := ?_) (a' := ?_) qq.m64 rfl rfl (any_of HT_.out (by kernel_rfl)) (fun _ _ _ h => h) (Or.inl ⟨by rfl, ?_⟩) ?_ ?_
                rotate_left
                · intro w'
                  go_simp
                  with_reducible rfl
                rotate_left
                · simp only [Act.put, sA, sB, sC, i64_w, i32_w]
                  rfl
                refine done_ (done_of HT_.out (by kernel_rfl)) ?_
                replace HS := Aside0.mk hh.1
                replace ZC := Aside0.mk hh.2.1
                replace X0 := Aside0.mk hh.2.2.1
                replace X1 := Aside0.mk hh.2.2.2.1
                replace Y0 := Aside0.mk hh.2.2.2.2.1
                replace Y1 := Aside0.mk hh.2.2.2.2.2.1
                replace P0 := Aside0.mk hh.2.2.2.2.2.2.1
                replace P1 := Aside0.mk hh.2.2.2.2.2.2.2.1
                replace J0 := Aside0.mk hh.2.2.2.2.2.2.2.2.1
                replace J1 := Aside0.mk hh.2.2.2.2.2.2.2.2.2
                clear hh
                replace HB := Aside0.mk (below_step HB.out HS.out)
                replace A0 := Aside0.mk (A0.out.keep HS.out)
                replace A1 := Aside0.mk (A1.out.keep HS.out)
                replace ZA := Aside0.mk (ZA.out.keep HS.out)
                replace ZD := Aside0.mk (ZD.out.keep HS.out)
                replace M16 := Aside0.mk (M16.out.keep HS.out)
                replace J19 := Aside0.mk (J19.out.keep HS.out)
                replace HK := Aside0.mk ((HK.out.keep HS.out).top)
                replace VL := Aside0.mk (Kd.R_below VL.out HS.out)
                clear HS
                clear X0 X1 Y0 Y1
                clear P0 P1 J0 J1
                clear hval
                go_wp2_with fail
                go_meet
                case rel => exact ⟨rfl, HB, A0, A1, ZA, ZC, ZD, M16, J19, HK, VL⟩
              | false =>
                obtain ⟨hj1, hj2⟩ := HT.out.nt rfl
                subst hj1
                subst hj2
                cases va with
                | true =>
                  as_aux_lemma =>
                  have X0 := Aside0.mk (A0.out.cell (i := 0) (v := .int .i64 a) rfl)
                  have X1 := Aside0.mk (A0.out.cell (i := 1) (v := .int .i64 m) rfl)
                  have Y0 := Aside0.mk (A1.out.cell (i := 0) (v := .int .i64 b) rfl)
                  have Y1 := Aside0.mk (A1.out.cell (i := 1) (v := .int .i64 n) rfl)
                  have P0 := Aside0.mk (M16.out.cell (i := 0) (v := .int .i64 0) rfl)
                  have P1 := Aside0.mk (M16.out.cell (i := 1) (v := .int .i64 0) rfl)
                  have J0 := Aside0.mk (J19.out.cell (i := 0) (v := .int .i64 0) rfl)
                  have J1 := Aside0.mk (J19.out.cell (i := 1) (v := .int .i64 0) rfl)
                  have hval : Aside0 (span_Valid.f a m bl = some (decide (en ≤ bl))) := ⟨by rw [valid_any]; congr 1; rw [decide_eq_decide]; have h1 := HT.out.a1 rfl; have h2 := of_decide_eq_true (Option.some.inj ((rwhole_eq a m).symm.trans HT.out.wa)); exact ⟨fun h => by rw [h1.1]; exact h.2, fun h => ⟨h2, by rw [h1.1] at h; exact h⟩⟩⟩
                  have HS : Aside0 (Below wc.heap.size wc wc) := ⟨Below.refl _ _⟩
                  as_aux_lemma =>
                  refine start_ (n := 64) (S := fun w' => Below wc.heap.size wc w' ∧ Blk w' g11 30 (setArr u) ∧ w'.cell? ⟨g0, 0, none⟩ = some (.int .i64 a) ∧ w'.cell? ⟨g0, 1, none⟩ = some (.int .i64 m) ∧ w'.cell? ⟨g1, 0, none⟩ = some (.int .i64 b) ∧ w'.cell? ⟨g1, 1, none⟩ = some (.int .i64 n) ∧ w'.cell? ⟨g16, 0, none⟩ = some (.int .i64 0) ∧ w'.cell? ⟨g16, 1, none⟩ = some (.int .i64 0) ∧ w'.cell? ⟨g19, 0, none⟩ = some (.int .i64 0) ∧ w'.cell? ⟨g19, 1, none⟩ = some (.int .i64 0)) (ds := []) #[false, false, false, false, false, false, false, false, false, false, false, false, false, false, false, false, false, false, false, false, false, false, false, false, false, false, false, false, false, false, false, false, false, false, false, false, false, false, false, false, false, false, false, false, false, false, false, false, false, false, false, false, false, false, false, false, false, false, false, false, false, false, false, false] (by kernel_rfl) rfl rfl ⟨(below_drew1 HS.out), (ZC.out.keep (below_drew1 (Below.refl _ _))), (keep (below_drew1 (Below.refl _ _)) X0.out), (keep (below_drew1 (Below.refl _ _)) X1.out), (keep (below_drew1 (Below.refl _ _)) Y0.out), (keep (below_drew1 (Below.refl _ _)) Y1.out), (keep (below_drew1 (Below.refl _ _)) P0.out), (keep (below_drew1 (Below.refl _ _)) P1.out), (keep (below_drew1 (Below.refl _ _)) J0.out), (keep (below_drew1 (Below.refl _ _)) J1.out)⟩ (fun hh => ?_)
                  refine with_tabW (T := qq.T21) (B := qq.B21) (by kernel_rfl) qq.bits21 (fun HT_ HW_ => ?_)
                  refine pure_ (i := 1) (N := some 119) (v := ?_) (a' := ?_) qq.m0 rfl rfl (any_of HT_.out (by kernel_rfl)) (fun _ _ _ h => h) (Or.inl ⟨by rfl, ?_⟩) ?_ ?_
                  rotate_left
                  · intro w'
                    go_simp
                    with_reducible rfl
                  rotate_left
                  · simp only [Act.put, sA, sB, sC, i64_w, i32_w]
                    rfl
                  refine pure_ (i := 3) (N := some 121) (v := ?_) (a' := ?_) qq.m1 rfl rfl (any_of HT_.out (by kernel_rfl)) (fun _ _ _ h => h) (Or.inl ⟨by rfl, ?_⟩) ?_ ?_
                  rotate_left
                  · intro w'
                    go_simp
                    with_reducible rfl
                  rotate_left
                  · simp only [Act.put, sA, sB, sC, i64_w, i32_w]
                    rfl
                  refine take_ (i := 0) (N := some 118) (v := ?_) (a' := ?_) qq.m2 rfl rfl (take_ofW HT_.out HW_.out (by kernel_rfl)) (fun _ _ _ h => h) (Or.inl ⟨by rfl, ?_⟩) hh ?_ ?_
                  rotate_left
                  · rintro w' ⟨s0, s1, s2, s3, s4, s5, s6, s7, s8, s9⟩
                    go_simp
                    with_reducible rfl
                  rotate_left
                  · simp only [Act.put, sA, sB, sC, i64_w, i32_w]
                    rfl
                  refine one_ (i := 2) (N := some 120) qq.m3 rfl rfl (one_of HT_.out (by kernel_rfl)) (by decide) (fun K hK => ?_)
                  refine goes_ Try.func18 (by kernel_rfl) rfl #[.agg #[.int .i64 a, .int .i64 m], .int .i64 bl] (by rfl) rfl rfl (by simp only [List.map_toArray, List.map_cons, List.map_nil]; rfl) ?_
                  with_reducible refine (span_Valid.calls a m bl (decide (en ≤ bl)) _ hval.out).mono ?_
                  rintro e w60 ⟨rfl, hb⟩
                  refine ⟨_, rfl, ?_⟩
                  refine hK.out _ _ ⟨(below_step hh.1 hb), (hh.2.1.keep hb), (keep hb hh.2.2.1), (keep hb hh.2.2.2.1), (keep hb hh.2.2.2.2.1), (keep hb hh.2.2.2.2.2.1), (keep hb hh.2.2.2.2.2.2.1), (keep hb hh.2.2.2.2.2.2.2.1), (keep hb hh.2.2.2.2.2.2.2.2.1), (keep hb hh.2.2.2.2.2.2.2.2.2)⟩ (fun hH2 => ?_)
                  clear hK K hh
                  try clear hb
                  have hh := hH2
                  clear hH2
                  refine norm_ (a' := ?_) ?_ ?_
                  rotate_left
                  · show Act.put _ (some 120) _ = _
                    simp only [Act.put, sA, sB, sC, i64_w, i32_w]
                    rfl
                  refine pure_ (i := 4) (N := some 122) (v := ?_) (a' := ?_) qq.m4 rfl rfl (any_of HT_.out (by kernel_rfl)) (fun _ _ _ h => h) (Or.inl ⟨by rfl, ?_⟩) ?_ ?_
                  rotate_left
                  · intro w'
                    go_simp
                    with_reducible rfl
                  rotate_left
                  · simp only [Act.put, sA, sB, sC, i64_w, i32_w]
                    rfl
                  refine pure_ (i := 5) (N := some 123) (v := ?_) (a' := ?_) qq.m5 rfl rfl (any_of HT_.out (by kernel_rfl)) (fun _ _ _ h => h) (Or.inl ⟨by rfl, ?_⟩) ?_ ?_
                  rotate_left
                  · intro w'
                    go_simp
                    with_reducible rfl
                  rotate_left
                  · simp only [Act.put, sA, sB, sC, i64_w, i32_w]
                    rfl
                  refine pure_ (i := 6) (N := some 124) (v := ?_) (a' := ?_) qq.m6 rfl rfl (any_of HT_.out (by kernel_rfl)) (fun _ _ _ h => h) (Or.inl ⟨by rfl, ?_⟩) ?_ ?_
                  rotate_left
                  · intro w'
                    go_simp
                    with_reducible rfl
                  rotate_left
                  · simp only [Act.put, sA, sB, sC, i64_w, i32_w]
                    rfl
                  refine pure_ (i := 7) (N := some 125) (v := ?_) (a' := ?_) qq.m7 rfl rfl (any_of HT_.out (by kernel_rfl)) (fun _ _ _ h => h) (Or.inl ⟨by rfl, ?_⟩) ?_ ?_
                  rotate_left
                  · intro w'
                    go_simp
                    with_reducible rfl
                  rotate_left
                  · simp only [Act.put, sA, sB, sC, i64_w, i32_w]
                    rfl
                  refine pure_ (i := 8) (N := some 126) (v := ?_) (a' := ?_) qq.m8 rfl rfl (any_of HT_.out (by kernel_rfl)) (fun _ _ _ h => h) (Or.inl ⟨by rfl, ?_⟩) ?_ ?_
                  rotate_left
                  · intro w'
                    go_simp
                    with_reducible rfl
                  rotate_left
                  · simp only [Act.put, sA, sB, sC, i64_w, i32_w]
                    rfl
                  refine pure_ (i := 9) (N := some 127) (v := ?_) (a' := ?_) qq.m9 rfl rfl (any_of HT_.out (by kernel_rfl)) (fun _ _ _ h => h) (Or.inl ⟨by rfl, ?_⟩) ?_ ?_
                  rotate_left
                  · intro w'
                    go_simp
                    with_reducible rfl
                  rotate_left
                  · simp only [Act.put, sA, sB, sC, i64_w, i32_w]
                    rfl
                  refine pure_ (i := 10) (N := some 128) (v := ?_) (a' := ?_) qq.m10 rfl rfl (any_of HT_.out (by kernel_rfl)) (fun _ _ _ h => h) (Or.inl ⟨by rfl, ?_⟩) ?_ ?_
                  rotate_left
                  · intro w'
                    go_simp
                    with_reducible rfl
                  rotate_left
                  · simp only [Act.put, sA, sB, sC, i64_w, i32_w]
                    rfl
                  refine pure_ (i := 13) (N := some 131) (v := ?_) (a' := ?_) qq.m11 rfl rfl (any_of HT_.out (by kernel_rfl)) (fun _ _ _ h => h) (Or.inl ⟨by rfl, ?_⟩) ?_ ?_
                  rotate_left
                  · intro w'
                    go_simp
                    with_reducible rfl
                  rotate_left
                  · simp only [Act.put, sA, sB, sC, i64_w, i32_w]
                    rfl
                  refine take_ (i := 11) (N := some 129) (v := ?_) (a' := ?_) qq.m12 rfl rfl (take_ofW HT_.out HW_.out (by kernel_rfl)) (fun _ _ _ h => h) (Or.inl ⟨by rfl, ?_⟩) hh ?_ ?_
                  rotate_left
                  · rintro w' ⟨s0, s1, s2, s3, s4, s5, s6, s7, s8, s9⟩
                    go_simp
                    with_reducible rfl
                  rotate_left
                  · simp only [Act.put, sA, sB, sC, i64_w, i32_w]
                    rfl
                  refine one_ (i := 12) (N := some 130) qq.m13 rfl rfl (one_of HT_.out (by kernel_rfl)) (by decide) (fun K hK => ?_)
                  refine goes_ Try.func24 (by kernel_rfl) rfl #[.agg #[.int .i64 a, .int .i64 m]] (by rfl) rfl rfl (by simp only [List.map_toArray, List.map_cons, List.map_nil]; rfl) ?_
                  with_reducible refine (span_End.calls a m en _ HT.out.end_).mono ?_
                  rintro e w61 ⟨rfl, hb⟩
                  refine ⟨_, rfl, ?_⟩
                  refine hK.out _ _ ⟨(below_step hh.1 hb), (hh.2.1.keep hb), (keep hb hh.2.2.1), (keep hb hh.2.2.2.1), (keep hb hh.2.2.2.2.1), (keep hb hh.2.2.2.2.2.1), (keep hb hh.2.2.2.2.2.2.1), (keep hb hh.2.2.2.2.2.2.2.1), (keep hb hh.2.2.2.2.2.2.2.2.1), (keep hb hh.2.2.2.2.2.2.2.2.2)⟩ (fun hH2 => ?_)
                  clear hK K hh
                  try clear hb
                  have hh := hH2
                  clear hH2
                  refine norm_ (a' := ?_) ?_ ?_
                  rotate_left
                  · show Act.put _ (some 130) _ = _
                    simp only [Act.put, sA, sB, sC, i64_w, i32_w]
                    rfl
                  refine pure_ (i := 14) (N := some 132) (v := ?_) (a' := ?_) qq.m14 rfl rfl (any_of HT_.out (by kernel_rfl)) (fun _ _ _ h => h) (Or.inl ⟨by rfl, ?_⟩) ?_ ?_
                  rotate_left
                  · intro w'
                    go_simp
                    with_reducible rfl
                  rotate_left
                  · simp only [Act.put, sA, sB, sC, i64_w, i32_w]
                    rfl
                  refine pure_ (i := 15) (N := some 133) (v := ?_) (a' := ?_) qq.m15 rfl rfl (any_of HT_.out (by kernel_rfl)) (fun _ _ _ h => h) (Or.inl ⟨by rfl, ?_⟩) ?_ ?_
                  rotate_left
                  · intro w'
                    go_simp
                    with_reducible rfl
                  rotate_left
                  · simp only [Act.put, sA, sB, sC, i64_w, i32_w]
                    rfl
                  refine pure_ (i := 16) (N := some 134) (v := ?_) (a' := ?_) qq.m16 rfl rfl (any_of HT_.out (by kernel_rfl)) (fun _ _ _ h => h) (Or.inl ⟨by rfl, ?_⟩) ?_ ?_
                  rotate_left
                  · intro w'
                    go_simp
                    with_reducible rfl
                  rotate_left
                  · simp only [Act.put, sA, sB, sC, i64_w, i32_w]
                    rfl
                  refine pure_ (i := 17) (N := some 135) (v := ?_) (a' := ?_) qq.m17 rfl rfl (any_of HT_.out (by kernel_rfl)) (fun _ _ _ h => h) (Or.inl ⟨by rfl, ?_⟩) ?_ ?_
                  rotate_left
                  · intro w'
                    go_simp
                    with_reducible rfl
                  rotate_left
                  · simp only [Act.put, sA, sB, sC, i64_w, i32_w]
                    rfl
                  refine take_ (i := 18) (N := some 136) (v := ?_) (a' := ?_) qq.m18 rfl rfl (take_ofW HT_.out HW_.out (by kernel_rfl)) (fun _ _ _ h => h) (Or.inl ⟨by rfl, ?_⟩) hh ?_ ?_
                  rotate_left
                  · rintro w' ⟨s0, s1, s2, s3, s4, s5, s6, s7, s8, s9⟩
                    refine row_yields 30 (.tmp 11) ?_ g11 ?_ 30 (setArr u) (0, 0) _ s1.hd Try.underlying30 rfl (by rw [setArr_size, Hul.out] <;> exact info30)
                    · rfl
                    · rfl
                  rotate_left
                  · simp only [Act.put, sA, sB, sC, i64_w, i32_w]
                    rfl
                  refine one_ (i := 19) (N := some 137) qq.m19 rfl rfl (one_of HT_.out (by kernel_rfl)) (by decide) (fun K hK => ?_)
                  refine goes_ Try.func25 (by kernel_rfl) rfl #[.agg (setArr u)] (by rfl) rfl rfl (by simp only [List.map_toArray, List.map_cons, List.map_nil]; rfl) ?_
                  with_reducible refine (set_cnt u 0 Hul.out Huc.out _).mono ?_
                  rintro e w62 ⟨rfl, hb⟩
                  refine ⟨_, rfl, ?_⟩
                  refine hK.out _ _ ⟨(below_step hh.1 hb), (hh.2.1.keep hb), (keep hb hh.2.2.1), (keep hb hh.2.2.2.1), (keep hb hh.2.2.2.2.1), (keep hb hh.2.2.2.2.2.1), (keep hb hh.2.2.2.2.2.2.1), (keep hb hh.2.2.2.2.2.2.2.1), (keep hb hh.2.2.2.2.2.2.2.2.1), (keep hb hh.2.2.2.2.2.2.2.2.2)⟩ (fun hH2 => ?_)
                  clear hK K hh
                  try clear hb
                  have hh := hH2
                  clear hH2
                  refine norm_ (a' := ?_) ?_ ?_
                  rotate_left
                  · show Act.put _ (some 137) _ = _
                    simp only [Act.put, sA, sB, sC, i64_w, i32_w]
                    rfl
                  refine pure_ (i := 20) (N := some 138) (v := ?_) (a' := ?_) qq.m20 rfl rfl (any_of HT_.out (by kernel_rfl)) (fun _ _ _ h => h) (Or.inl ⟨by rfl, ?_⟩) ?_ ?_
                  rotate_left
                  · intro w'
                    go_simp
                    with_reducible rfl
                  rotate_left
                  · simp only [Act.put, sA, sB, sC, i64_w, i32_w]
                    rfl
                  refine pure_ (i := 21) (N := some 139) (v := ?_) (a' := ?_) qq.m21 rfl rfl (any_of HT_.out (by kernel_rfl)) (fun _ _ _ h => h) (Or.inl ⟨by rfl, ?_⟩) ?_ ?_
                  rotate_left
                  · intro w'
                    go_simp
                    with_reducible rfl
                  rotate_left
                  · simp only [Act.put, sA, sB, sC, i64_w, i32_w]
                    rfl
                  refine pure_ (i := 22) (N := some 140) (v := ?_) (a' := ?_) qq.m22 rfl rfl (any_of HT_.out (by kernel_rfl)) (fun _ _ _ h => h) (Or.inl ⟨by rfl, ?_⟩) ?_ ?_
                  rotate_left
                  · intro w'
                    go_simp
                    with_reducible rfl
                  rotate_left
                  · simp only [Act.put, sA, sB, sC, i64_w, i32_w]
                    rfl
                  refine pure_ (i := 23) (N := some 141) (v := ?_) (a' := ?_) qq.m23 rfl rfl (any_of HT_.out (by kernel_rfl)) (fun _ _ _ h => h) (Or.inl ⟨by rfl, ?_⟩) ?_ ?_
                  rotate_left
                  · intro w'
                    go_simp
                    with_reducible rfl
                  rotate_left
                  · simp only [Act.put, sA, sB, sC, i64_w, i32_w]
                    rfl
                  refine pure_ (i := 24) (N := some 142) (v := ?_) (a' := ?_) qq.m24 rfl rfl (any_of HT_.out (by kernel_rfl)) (fun _ _ _ h => h) (Or.inl ⟨by rfl, ?_⟩) ?_ ?_
                  rotate_left
                  · intro w'
                    go_simp
                    with_reducible rfl
                  rotate_left
                  · simp only [Act.put, sA, sB, sC, i64_w, i32_w]
                    rfl
                  refine pure_ (i := 25) (N := some 143) (v := ?_) (a' := ?_) qq.m25 rfl rfl (any_of HT_.out (by kernel_rfl)) (fun _ _ _ h => h) (Or.inl ⟨by rfl, ?_⟩) ?_ ?_
                  rotate_left
                  · intro w'
                    go_simp
                    with_reducible rfl
                  rotate_left
                  · simp only [Act.put, sA, sB, sC, i64_w, i32_w]
                    rfl
                  refine pure_ (i := 26) (N := some 144) (v := undef) (a' := ?_) qq.m26 rfl rfl (any_of HT_.out (by kernel_rfl)) (fun _ _ _ h => h) (Or.inr ⟨by rfl, rfl⟩) ?_ ?_
                  rotate_left
                  · simp only [Act.put, sA, sB, sC, i64_w, i32_w]
                    rfl
                  refine pure_ (i := 27) (N := some 145) (v := undef) (a' := ?_) qq.m65 rfl rfl (any_of HT_.out (by kernel_rfl)) (fun _ _ _ h => h) (Or.inr ⟨by rfl, rfl⟩) ?_ ?_
                  rotate_left
                  · simp only [Act.put, sA, sB, sC, i64_w, i32_w]
                    rfl
                  refine pure_ (i := 28) (N := some 146) (v := undef) (a' := ?_) qq.m29 rfl rfl (any_of HT_.out (by kernel_rfl)) (fun _ _ _ h => h) (Or.inr ⟨by rfl, rfl⟩) ?_ ?_
                  rotate_left
                  · simp only [Act.put, sA, sB, sC, i64_w, i32_w]
                    rfl
                  refine pure_ (i := 29) (N := some 147) (v := undef) (a' := ?_) qq.m28 rfl rfl (any_of HT_.out (by kernel_rfl)) (fun _ _ _ h => h) (Or.inr ⟨by rfl, rfl⟩) ?_ ?_
                  rotate_left
                  · simp only [Act.put, sA, sB, sC, i64_w, i32_w]
                    rfl
                  refine pure_ (i := 30) (N := some 148) (v := undef) (a' := ?_) qq.m31 rfl rfl (any_of HT_.out (by kernel_rfl)) (fun _ _ _ h => h) (Or.inr ⟨by rfl, rfl⟩) ?_ ?_
                  rotate_left
                  · simp only [Act.put, sA, sB, sC, i64_w, i32_w]
                    rfl
                  refine pure_ (i := 31) (N := some 149) (v := undef) (a' := ?_) qq.m32 rfl rfl (any_of HT_.out (by kernel_rfl)) (fun _ _ _ h => h) (Or.inr ⟨by rfl, rfl⟩) ?_ ?_
                  rotate_left
                  · simp only [Act.put, sA, sB, sC, i64_w, i32_w]
                    rfl
                  refine pure_ (i := 32) (N := some 150) (v := ?_) (a' := ?_) qq.m33 rfl rfl (any_of HT_.out (by kernel_rfl)) (fun _ _ _ h => h) (Or.inl ⟨by rfl, ?_⟩) ?_ ?_
                  rotate_left
                  · intro w'
                    go_simp
                    with_reducible rfl
                  rotate_left
                  · simp only [Act.put, sA, sB, sC, i64_w, i32_w]
                    rfl
                  refine pure_ (i := 33) (N := some 151) (v := ?_) (a' := ?_) qq.m34 rfl rfl (any_of HT_.out (by kernel_rfl)) (fun _ _ _ h => h) (Or.inl ⟨by rfl, ?_⟩) ?_ ?_
                  rotate_left
                  · intro w'
                    go_simp
                    with_reducible rfl
                  rotate_left
                  · simp only [Act.put, sA, sB, sC, i64_w, i32_w]
                    rfl
                  refine pure_ (i := 34) (N := some 152) (v := ?_) (a' := ?_) qq.m35 rfl rfl (any_of HT_.out (by kernel_rfl)) (fun _ _ _ h => h) (Or.inl ⟨by rfl, ?_⟩) ?_ ?_
                  rotate_left
                  · intro w'
                    go_simp
                    with_reducible rfl
                  rotate_left
                  · simp only [Act.put, sA, sB, sC, i64_w, i32_w]
                    rfl
                  refine pure_ (i := 35) (N := some 153) (v := ?_) (a' := ?_) qq.m36 rfl rfl (any_of HT_.out (by kernel_rfl)) (fun _ _ _ h => h) (Or.inl ⟨by rfl, ?_⟩) ?_ ?_
                  rotate_left
                  · intro w'
                    go_simp
                    with_reducible rfl
                  rotate_left
                  · simp only [Act.put, sA, sB, sC, i64_w, i32_w]
                    rfl
                  refine pure_ (i := 36) (N := some 154) (v := ?_) (a' := ?_) qq.m37 rfl rfl (any_of HT_.out (by kernel_rfl)) (fun _ _ _ h => h) (Or.inl ⟨by rfl, ?_⟩) ?_ ?_
                  rotate_left
                  · intro w'
                    go_simp
                    with_reducible rfl
                  rotate_left
                  · simp only [Act.put, sA, sB, sC, i64_w, i32_w]
                    rfl
                  refine pure_ (i := 37) (N := some 155) (v := ?_) (a' := ?_) qq.m38 rfl rfl (any_of HT_.out (by kernel_rfl)) (fun _ _ _ h => h) (Or.inl ⟨by rfl, ?_⟩) ?_ ?_
                  rotate_left
                  · intro w'
                    go_simp
                    with_reducible rfl
                  rotate_left
                  · simp only [Act.put, sA, sB, sC, i64_w, i32_w]
                    rfl
                  refine pure_ (i := 39) (N := some 157) (v := ?_) (a' := ?_) qq.m66 rfl rfl (any_of HT_.out (by kernel_rfl)) (fun _ _ _ h => h) (Or.inl ⟨by rfl, ?_⟩) ?_ ?_
                  rotate_left
                  · intro w'
                    go_simp
                    with_reducible rfl
                  rotate_left
                  · simp only [Act.put, sA, sB, sC, i64_w, i32_w]
                    rfl
                  refine take_ (i := 38) (N := some 156) (v := ?_) (a' := ?_) qq.m40 rfl rfl (take_ofW HT_.out HW_.out (by kernel_rfl)) (fun _ _ _ h => h) (Or.inl ⟨by rfl, ?_⟩) hh ?_ ?_
                  rotate_left
                  · rintro w' ⟨s0, s1, s2, s3, s4, s5, s6, s7, s8, s9⟩
                    go_simp
                    with_reducible rfl
                  rotate_left
                  · simp only [Act.put, sA, sB, sC, i64_w, i32_w]
                    rfl
                  refine pure_ (i := 40) (N := some 158) (v := ?_) (a' := ?_) qq.m41 rfl rfl (any_of HT_.out (by kernel_rfl)) (fun _ _ _ h => h) (Or.inl ⟨by rfl, ?_⟩) ?_ ?_
                  rotate_left
                  · intro w'
                    go_simp
                    with_reducible rfl
                  rotate_left
                  · simp only [Act.put, sA, sB, sC, i64_w, i32_w]
                    rfl
                  refine pure_ (i := 41) (N := some 159) (v := ?_) (a' := ?_) qq.m42 rfl rfl (any_of HT_.out (by kernel_rfl)) (fun _ _ _ h => h) (Or.inl ⟨by rfl, ?_⟩) ?_ ?_
                  rotate_left
                  · intro w'
                    go_simp
                    with_reducible rfl
                  rotate_left
                  · simp only [Act.put, sA, sB, sC, i64_w, i32_w]
                    rfl
                  refine pure_ (i := 42) (N := some 160) (v := ?_) (a' := ?_) qq.m43 rfl rfl (any_of HT_.out (by kernel_rfl)) (fun _ _ _ h => h) (Or.inl ⟨by rfl, ?_⟩) ?_ ?_
                  rotate_left
                  · intro w'
                    go_simp
                    with_reducible rfl
                  rotate_left
                  · simp only [Act.put, sA, sB, sC, i64_w, i32_w]
                    rfl
                  refine pure_ (i := 43) (N := some 161) (v := ?_) (a' := ?_) qq.m44 rfl rfl (any_of HT_.out (by kernel_rfl)) (fun _ _ _ h => h) (Or.inl ⟨by rfl, ?_⟩) ?_ ?_
                  rotate_left
                  · intro w'
                    go_simp
                    with_reducible rfl
                  rotate_left
                  · simp only [Act.put, sA, sB, sC, i64_w, i32_w]
                    rfl
                  refine pure_ (i := 47) (N := some 165) (v := ?_) (a' := ?_) qq.m45 rfl rfl (any_of HT_.out (by kernel_rfl)) (fun _ _ _ h => h) (Or.inl ⟨by rfl, ?_⟩) ?_ ?_
                  rotate_left
                  · intro w'
                    go_simp
                    with_reducible rfl
                  rotate_left
                  · simp only [Act.put, sA, sB, sC, i64_w, i32_w]
                    rfl
                  refine take_ (i := 44) (N := some 162) (v := ?_) (a' := ?_) qq.m46 rfl rfl (take_ofW HT_.out HW_.out (by kernel_rfl)) (fun _ _ _ h => h) (Or.inl ⟨by rfl, ?_⟩) hh ?_ ?_
                  rotate_left
                  · rintro w' ⟨s0, s1, s2, s3, s4, s5, s6, s7, s8, s9⟩
                    go_simp
                    with_reducible rfl
                  rotate_left
                  · simp only [Act.put, sA, sB, sC, i64_w, i32_w]
                    rfl
                  refine take_ (i := 45) (N := some 163) (v := ?_) (a' := ?_) qq.m47 rfl rfl (take_ofW HT_.out HW_.out (by kernel_rfl)) (fun _ _ _ h => h) (Or.inl ⟨by rfl, ?_⟩) hh ?_ ?_
                  rotate_left
                  · rintro w' ⟨s0, s1, s2, s3, s4, s5, s6, s7, s8, s9⟩
                    go_simp
                    with_reducible rfl
                  rotate_left
                  · simp only [Act.put, sA, sB, sC, i64_w, i32_w]
                    rfl
                  refine one_ (i := 46) (N := some 164) qq.m48 rfl rfl (one_of HT_.out (by kernel_rfl)) (by decide) (fun K hK => ?_)
                  refine goes_ Try.func22 (by kernel_rfl) rfl #[.agg #[.int .i64 a, .int .i64 m], .agg #[.int .i64 b, .int .i64 n]] (by rfl) rfl rfl (by simp only [List.map_toArray, List.map_cons, List.map_nil]; rfl) ?_
                  with_reducible refine (span_Touch.calls a m b n false _ HT.out.touch).mono ?_
                  rintro e w66 ⟨rfl, hb⟩
                  refine ⟨_, rfl, ?_⟩
                  refine hK.out _ _ ⟨(below_step hh.1 hb), (hh.2.1.keep hb), (keep hb hh.2.2.1), (keep hb hh.2.2.2.1), (keep hb hh.2.2.2.2.1), (keep hb hh.2.2.2.2.2.1), (keep hb hh.2.2.2.2.2.2.1), (keep hb hh.2.2.2.2.2.2.2.1), (keep hb hh.2.2.2.2.2.2.2.2.1), (keep hb hh.2.2.2.2.2.2.2.2.2)⟩ (fun hH2 => ?_)
                  clear hK K hh
                  try clear hb
                  have hh := hH2
                  clear hH2
                  refine norm_ (a' := ?_) ?_ ?_
                  rotate_left
                  · show Act.put _ (some 164) _ = _
                    simp only [Act.put, sA, sB, sC, i64_w, i32_w]
                    rfl
                  refine pure_ (i := 48) (N := some 166) (v := ?_) (a' := ?_) qq.m49 rfl rfl (any_of HT_.out (by kernel_rfl)) (fun _ _ _ h => h) (Or.inl ⟨by rfl, ?_⟩) ?_ ?_
                  rotate_left
                  · intro w'
                    go_simp
                    with_reducible rfl
                  rotate_left
                  · simp only [Act.put, sA, sB, sC, i64_w, i32_w]
                    rfl
                  refine pure_ (i := 49) (N := some 167) (v := ?_) (a' := ?_) qq.m50 rfl rfl (any_of HT_.out (by kernel_rfl)) (fun _ _ _ h => h) (Or.inl ⟨by rfl, ?_⟩) ?_ ?_
                  rotate_left
                  · intro w'
                    go_simp
                    with_reducible rfl
                  rotate_left
                  · simp only [Act.put, sA, sB, sC, i64_w, i32_w]
                    rfl
                  refine pure_ (i := 50) (N := some 168) (v := ?_) (a' := ?_) qq.m51 rfl rfl (any_of HT_.out (by kernel_rfl)) (fun _ _ _ h => h) (Or.inl ⟨by rfl, ?_⟩) ?_ ?_
                  rotate_left
                  · intro w'
                    go_simp
                    with_reducible rfl
                  rotate_left
                  · simp only [Act.put, sA, sB, sC, i64_w, i32_w]
                    rfl
                  refine pure_ (i := 51) (N := some 169) (v := ?_) (a' := ?_) qq.m52 rfl rfl (any_of HT_.out (by kernel_rfl)) (fun _ _ _ h => h) (Or.inl ⟨by rfl, ?_⟩) ?_ ?_
                  rotate_left
                  · intro w'
                    go_simp
                    with_reducible rfl
                  rotate_left
                  · simp only [Act.put, sA, sB, sC, i64_w, i32_w]
                    rfl
                  refine pure_ (i := 52) (N := some 170) (v := ?_) (a' := ?_) qq.m53 rfl rfl (any_of HT_.out (by kernel_rfl)) (fun _ _ _ h => h) (Or.inl ⟨by rfl, ?_⟩) ?_ ?_
                  rotate_left
                  · intro w'
                    go_simp
                    with_reducible rfl
                  rotate_left
                  · simp only [Act.put, sA, sB, sC, i64_w, i32_w]
                    rfl
                  refine pure_ (i := 53) (N := some 171) (v := ?_) (a' := ?_) qq.m54 rfl rfl (any_of HT_.out (by kernel_rfl)) (fun _ _ _ h => h) (Or.inl ⟨by rfl, ?_⟩) ?_ ?_
                  rotate_left
                  · intro w'
                    go_simp
                    with_reducible rfl
                  rotate_left
                  · simp only [Act.put, sA, sB, sC, i64_w, i32_w]
                    rfl
                  refine pure_ (i := 54) (N := some 172) (v := ?_) (a' := ?_) qq.m55 rfl rfl (any_of HT_.out (by kernel_rfl)) (fun _ _ _ h => h) (Or.inl ⟨by rfl, ?_⟩) ?_ ?_
                  rotate_left
                  · intro w'
                    go_simp
                    with_reducible rfl
                  rotate_left
                  · simp only [Act.put, sA, sB, sC, i64_w, i32_w]
                    rfl
                  refine pure_ (i := 55) (N := some 173) (v := ?_) (a' := ?_) qq.m56 rfl rfl (any_of HT_.out (by kernel_rfl)) (fun _ _ _ h => h) (Or.inl ⟨by rfl, ?_⟩) ?_ ?_
                  rotate_left
                  · intro w'
                    go_simp
                    with_reducible rfl
                  rotate_left
                  · simp only [Act.put, sA, sB, sC, i64_w, i32_w]
                    rfl
                  refine pure_ (i := 56) (N := some 174) (v := ?_) (a' := ?_) qq.m57 rfl rfl (any_of HT_.out (by kernel_rfl)) (fun _ _ _ h => h) (Or.inl ⟨by rfl, ?_⟩) ?_ ?_
                  rotate_left
                  · intro w'
                    go_simp
                    with_reducible rfl
                  rotate_left
                  · simp only [Act.put, sA, sB, sC, i64_w, i32_w]
                    rfl
                  refine pure_ (i := 57) (N := some 175) (v := ?_) (a' := ?_) qq.m58 rfl rfl (any_of HT_.out (by kernel_rfl)) (fun _ _ _ h => h) (Or.inl ⟨by rfl, ?_⟩) ?_ ?_
                  rotate_left
                  · intro w'
                    go_simp
                    with_reducible rfl
                  rotate_left
                  · simp only [Act.put, sA, sB, sC, i64_w, i32_w]
                    rfl
                  refine pure_ (i := 58) (N := some 176) (v := ?_) (a' := ?_) qq.m59 rfl rfl (any_of HT_.out (by kernel_rfl)) (fun _ _ _ h => h) (Or.inl ⟨by rfl, ?_⟩) ?_ ?_
                  rotate_left
                  · intro w'
                    go_simp
                    with_reducible rfl
                  rotate_left
                  · simp only [Act.put, sA, sB, sC, i64_w, i32_w]
                    rfl
                  refine pure_ (i := 60) (N := some 178) (v := ?_) (a' := ?_) qq.m67 rfl rfl (any_of HT_.out (by kernel_rfl)) (fun _ _ _ h => h) (Or.inl ⟨by rfl, ?_⟩) ?_ ?_
                  rotate_left
                  · intro w'
                    go_simp
                    with_reducible rfl
                  rotate_left
                  · simp only [Act.put, sA, sB, sC, i64_w, i32_w]
                    rfl
                  refine take_ (i := 59) (N := some 177) (v := ?_) (a' := ?_) qq.m61 rfl rfl (take_ofW HT_.out HW_.out (by kernel_rfl)) (fun _ _ _ h => h) (Or.inl ⟨by rfl, ?_⟩) hh ?_ ?_
                  rotate_left
                  · rintro w' ⟨s0, s1, s2, s3, s4, s5, s6, s7, s8, s9⟩
                    go_simp
                    with_reducible rfl
                  rotate_left
                  · simp only [Act.put, sA, sB, sC, i64_w, i32_w]
                    rfl
                  refine pure_ (i := 61) (N := some 179) (v := ?_) (a' := ?_) qq.m62 rfl rfl (any_of HT_.out (by kernel_rfl)) (fun _ _ _ h => h) (Or.inl ⟨by rfl, ?_⟩) ?_ ?_
                  rotate_left
                  · intro w'
                    go_simp
                    with_reducible rfl
                  rotate_left
                  · simp only [Act.put, sA, sB, sC, i64_w, i32_w]
                    rfl
                  refine pure_ (i := 62) (N := some 180) (v := ?_) (a' := ?_) qq.m63 rfl rfl (any_of HT_.out (by kernel_rfl)) (fun _ _ _ h => h) (Or.inl ⟨by rfl, ?_⟩) ?_ ?_
                  rotate_left
                  · intro w'
                    go_simp
                    with_reducible rfl
                  rotate_left
                  · simp only [Act.put, sA, sB, sC, i64_w, i32_w]
                    rfl
                  refine pure_ (i := 63) (N := some 181) (v := ?_) (a' := ?_) qq.m64 rfl rfl (any_of HT_.out (by kernel_rfl)) (fun _ _ _ h => h) (Or.inl ⟨by rfl, ?_⟩) ?_ ?_
                  rotate_left
                  · intro w'
                    go_simp
                    with_reducible rfl
                  rotate_left
                  · simp only [Act.put, sA, sB, sC, i64_w, i32_w]
                    rfl
                  refine done_ (done_of HT_.out (by kernel_rfl)) ?_
                  replace HS := Aside0.mk hh.1
                  replace ZC := Aside0.mk hh.2.1
                  replace X0 := Aside0.mk hh.2.2.1
                  replace X1 := Aside0.mk hh.2.2.2.1
                  replace Y0 := Aside0.mk hh.2.2.2.2.1
                  replace Y1 := Aside0.mk hh.2.2.2.2.2.1
                  replace P0 := Aside0.mk hh.2.2.2.2.2.2.1
                  replace P1 := Aside0.mk hh.2.2.2.2.2.2.2.1
                  replace J0 := Aside0.mk hh.2.2.2.2.2.2.2.2.1
                  replace J1 := Aside0.mk hh.2.2.2.2.2.2.2.2.2
                  clear hh
                  replace HB := Aside0.mk (below_step HB.out HS.out)
                  replace A0 := Aside0.mk (A0.out.keep HS.out)
                  replace A1 := Aside0.mk (A1.out.keep HS.out)
                  replace ZA := Aside0.mk (ZA.out.keep HS.out)
                  replace ZD := Aside0.mk (ZD.out.keep HS.out)
                  replace M16 := Aside0.mk (M16.out.keep HS.out)
                  replace J19 := Aside0.mk (J19.out.keep HS.out)
                  replace HK := Aside0.mk ((HK.out.keep HS.out).top)
                  replace VL := Aside0.mk (Kd.R_below VL.out HS.out)
                  clear HS
                  clear X0 X1 Y0 Y1
                  clear P0 P1 J0 J1
                  clear hval
                  go_wp2_with fail
                  go_meet
                  case rel => exact ⟨rfl, HB, A0, A1, ZA, ZC, ZD, M16, J19, HK, VL⟩
                | false =>
                  have he0 := HT.out.a0 rfl
                  subst he0
                  as_aux_lemma =>
                  have X0 := Aside0.mk (A0.out.cell (i := 0) (v := .int .i64 a) rfl)
                  have X1 := Aside0.mk (A0.out.cell (i := 1) (v := .int .i64 m) rfl)
                  have Y0 := Aside0.mk (A1.out.cell (i := 0) (v := .int .i64 b) rfl)
                  have Y1 := Aside0.mk (A1.out.cell (i := 1) (v := .int .i64 n) rfl)
                  have P0 := Aside0.mk (M16.out.cell (i := 0) (v := .int .i64 0) rfl)
                  have P1 := Aside0.mk (M16.out.cell (i := 1) (v := .int .i64 0) rfl)
                  have J0 := Aside0.mk (J19.out.cell (i := 0) (v := .int .i64 0) rfl)
                  have J1 := Aside0.mk (J19.out.cell (i := 1) (v := .int .i64 0) rfl)
                  have hval : Aside0 (span_Valid.f a m bl = some false) := ⟨by rw [valid_any]; have h2 := of_decide_eq_false (Option.some.inj ((rwhole_eq a m).symm.trans HT.out.wa)); rw [decide_eq_false (fun h => h2 h.1)]⟩
                  have HS : Aside0 (Below wc.heap.size wc wc) := ⟨Below.refl _ _⟩
                  as_aux_lemma =>
                  refine start_ (n := 64) (S := fun w' => Below wc.heap.size wc w' ∧ Blk w' g11 30 (setArr u) ∧ w'.cell? ⟨g0, 0, none⟩ = some (.int .i64 a) ∧ w'.cell? ⟨g0, 1, none⟩ = some (.int .i64 m) ∧ w'.cell? ⟨g1, 0, none⟩ = some (.int .i64 b) ∧ w'.cell? ⟨g1, 1, none⟩ = some (.int .i64 n) ∧ w'.cell? ⟨g16, 0, none⟩ = some (.int .i64 0) ∧ w'.cell? ⟨g16, 1, none⟩ = some (.int .i64 0) ∧ w'.cell? ⟨g19, 0, none⟩ = some (.int .i64 0) ∧ w'.cell? ⟨g19, 1, none⟩ = some (.int .i64 0)) (ds := []) #[false, false, false, false, false, false, false, false, false, false, false, false, false, false, false, false, false, false, false, false, false, false, false, false, false, false, false, false, false, false, false, false, false, false, false, false, false, false, false, false, false, false, false, false, false, false, false, false, false, false, false, false, false, false, false, false, false, false, false, false, false, false, false, false] (by kernel_rfl) rfl rfl ⟨(below_drew1 HS.out), (ZC.out.keep (below_drew1 (Below.refl _ _))), (keep (below_drew1 (Below.refl _ _)) X0.out), (keep (below_drew1 (Below.refl _ _)) X1.out), (keep (below_drew1 (Below.refl _ _)) Y0.out), (keep (below_drew1 (Below.refl _ _)) Y1.out), (keep (below_drew1 (Below.refl _ _)) P0.out), (keep (below_drew1 (Below.refl _ _)) P1.out), (keep (below_drew1 (Below.refl _ _)) J0.out), (keep (below_drew1 (Below.refl _ _)) J1.out)⟩ (fun hh => ?_)
                  refine with_tabW (T := qq.T21) (B := qq.B21) (by kernel_rfl) qq.bits21 (fun HT_ HW_ => ?_)
                  refine pure_ (i := 1) (N := some 119) (v := ?_) (a' := ?_) qq.m0 rfl rfl (any_of HT_.out (by kernel_rfl)) (fun _ _ _ h => h) (Or.inl ⟨by rfl, ?_⟩) ?_ ?_
                  rotate_left
                  · intro w'
                    go_simp
                    with_reducible rfl
                  rotate_left
                  · simp only [Act.put, sA, sB, sC, i64_w, i32_w]
                    rfl
                  refine pure_ (i := 3) (N := some 121) (v := ?_) (a' := ?_) qq.m1 rfl rfl (any_of HT_.out (by kernel_rfl)) (fun _ _ _ h => h) (Or.inl ⟨by rfl, ?_⟩) ?_ ?_
                  rotate_left
                  · intro w'
                    go_simp
                    with_reducible rfl
                  rotate_left
                  · simp only [Act.put, sA, sB, sC, i64_w, i32_w]
                    rfl
                  refine take_ (i := 0) (N := some 118) (v := ?_) (a' := ?_) qq.m2 rfl rfl (take_ofW HT_.out HW_.out (by kernel_rfl)) (fun _ _ _ h => h) (Or.inl ⟨by rfl, ?_⟩) hh ?_ ?_
                  rotate_left
                  · rintro w' ⟨s0, s1, s2, s3, s4, s5, s6, s7, s8, s9⟩
                    go_simp
                    with_reducible rfl
                  rotate_left
                  · simp only [Act.put, sA, sB, sC, i64_w, i32_w]
                    rfl
                  refine one_ (i := 2) (N := some 120) qq.m3 rfl rfl (one_of HT_.out (by kernel_rfl)) (by decide) (fun K hK => ?_)
                  refine goes_ Try.func18 (by kernel_rfl) rfl #[.agg #[.int .i64 a, .int .i64 m], .int .i64 bl] (by rfl) rfl rfl (by simp only [List.map_toArray, List.map_cons, List.map_nil]; rfl) ?_
                  with_reducible refine (span_Valid.calls a m bl false _ hval.out).mono ?_
                  rintro e w60 ⟨rfl, hb⟩
                  refine ⟨_, rfl, ?_⟩
                  refine hK.out _ _ ⟨(below_step hh.1 hb), (hh.2.1.keep hb), (keep hb hh.2.2.1), (keep hb hh.2.2.2.1), (keep hb hh.2.2.2.2.1), (keep hb hh.2.2.2.2.2.1), (keep hb hh.2.2.2.2.2.2.1), (keep hb hh.2.2.2.2.2.2.2.1), (keep hb hh.2.2.2.2.2.2.2.2.1), (keep hb hh.2.2.2.2.2.2.2.2.2)⟩ (fun hH2 => ?_)
                  clear hK K hh
                  try clear hb
                  have hh := hH2
                  clear hH2
                  refine norm_ (a' := ?_) ?_ ?_
                  rotate_left
                  · show Act.put _ (some 120) _ = _
                    simp only [Act.put, sA, sB, sC, i64_w, i32_w]
                    rfl
                  refine pure_ (i := 4) (N := some 122) (v := ?_) (a' := ?_) qq.m4 rfl rfl (any_of HT_.out (by kernel_rfl)) (fun _ _ _ h => h) (Or.inl ⟨by rfl, ?_⟩) ?_ ?_
                  rotate_left
                  · intro w'
                    go_simp
                    with_reducible rfl
                  rotate_left
                  · simp only [Act.put, sA, sB, sC, i64_w, i32_w]
                    rfl
                  refine pure_ (i := 5) (N := some 123) (v := undef) (a' := ?_) qq.m5 rfl rfl (any_of HT_.out (by kernel_rfl)) (fun _ _ _ h => h) (Or.inr ⟨by rfl, rfl⟩) ?_ ?_
                  rotate_left
                  · simp only [Act.put, sA, sB, sC, i64_w, i32_w]
                    rfl
                  refine pure_ (i := 6) (N := some 124) (v := undef) (a' := ?_) qq.m6 rfl rfl (any_of HT_.out (by kernel_rfl)) (fun _ _ _ h => h) (Or.inr ⟨by rfl, rfl⟩) ?_ ?_
                  rotate_left
                  · simp only [Act.put, sA, sB, sC, i64_w, i32_w]
                    rfl
                  refine pure_ (i := 7) (N := some 125) (v := undef) (a' := ?_) qq.m7 rfl rfl (any_of HT_.out (by kernel_rfl)) (fun _ _ _ h => h) (Or.inr ⟨by rfl, rfl⟩) ?_ ?_
                  rotate_left
                  · simp only [Act.put, sA, sB, sC, i64_w, i32_w]
                    rfl
                  refine pure_ (i := 8) (N := some 126) (v := ?_) (a' := ?_) qq.m8 rfl rfl (any_of HT_.out (by kernel_rfl)) (fun _ _ _ h => h) (Or.inl ⟨by rfl, ?_⟩) ?_ ?_
                  rotate_left
                  · intro w'
                    go_simp
                    with_reducible rfl
                  rotate_left
                  · simp only [Act.put, sA, sB, sC, i64_w, i32_w]
                    rfl
                  refine pure_ (i := 9) (N := some 127) (v := ?_) (a' := ?_) qq.m9 rfl rfl (any_of HT_.out (by kernel_rfl)) (fun _ _ _ h => h) (Or.inl ⟨by rfl, ?_⟩) ?_ ?_
                  rotate_left
                  · intro w'
                    go_simp
                    with_reducible rfl
                  rotate_left
                  · simp only [Act.put, sA, sB, sC, i64_w, i32_w]
                    rfl
                  refine pure_ (i := 10) (N := some 128) (v := ?_) (a' := ?_) qq.m10 rfl rfl (any_of HT_.out (by kernel_rfl)) (fun _ _ _ h => h) (Or.inl ⟨by rfl, ?_⟩) ?_ ?_
                  rotate_left
                  · intro w'
                    go_simp
                    with_reducible rfl
                  rotate_left
                  · simp only [Act.put, sA, sB, sC, i64_w, i32_w]
                    rfl
                  refine pure_ (i := 13) (N := some 131) (v := ?_) (a' := ?_) qq.m11 rfl rfl (any_of HT_.out (by kernel_rfl)) (fun _ _ _ h => h) (Or.inl ⟨by rfl, ?_⟩) ?_ ?_
                  rotate_left
                  · intro w'
                    go_simp
                    with_reducible rfl
                  rotate_left
                  · simp only [Act.put, sA, sB, sC, i64_w, i32_w]
                    rfl
                  refine take_ (i := 11) (N := some 129) (v := ?_) (a' := ?_) qq.m12 rfl rfl (take_ofW HT_.out HW_.out (by kernel_rfl)) (fun _ _ _ h => h) (Or.inl ⟨by rfl, ?_⟩) hh ?_ ?_
                  rotate_left
                  · rintro w' ⟨s0, s1, s2, s3, s4, s5, s6, s7, s8, s9⟩
                    go_simp
                    with_reducible rfl
                  rotate_left
                  · simp only [Act.put, sA, sB, sC, i64_w, i32_w]
                    rfl
                  refine one_ (i := 12) (N := some 130) qq.m13 rfl rfl (one_of HT_.out (by kernel_rfl)) (by decide) (fun K hK => ?_)
                  refine goes_ Try.func24 (by kernel_rfl) rfl #[.agg #[.int .i64 a, .int .i64 m]] (by rfl) rfl rfl (by simp only [List.map_toArray, List.map_cons, List.map_nil]; rfl) ?_
                  with_reducible refine (span_End.calls a m 0 _ HT.out.end_).mono ?_
                  rintro e w61 ⟨rfl, hb⟩
                  refine ⟨_, rfl, ?_⟩
                  refine hK.out _ _ ⟨(below_step hh.1 hb), (hh.2.1.keep hb), (keep hb hh.2.2.1), (keep hb hh.2.2.2.1), (keep hb hh.2.2.2.2.1), (keep hb hh.2.2.2.2.2.1), (keep hb hh.2.2.2.2.2.2.1), (keep hb hh.2.2.2.2.2.2.2.1), (keep hb hh.2.2.2.2.2.2.2.2.1), (keep hb hh.2.2.2.2.2.2.2.2.2)⟩ (fun hH2 => ?_)
                  clear hK K hh
                  try clear hb
                  have hh := hH2
                  clear hH2
                  refine norm_ (a' := ?_) ?_ ?_
                  rotate_left
                  · show Act.put _ (some 130) _ = _
                    simp only [Act.put, sA, sB, sC, i64_w, i32_w]
                    rfl
                  refine pure_ (i := 14) (N := some 132) (v := ?_) (a' := ?_) qq.m14 rfl rfl (any_of HT_.out (by kernel_rfl)) (fun _ _ _ h => h) (Or.inl ⟨by rfl, ?_⟩) ?_ ?_
                  rotate_left
                  · intro w'
                    go_simp
                    with_reducible rfl
                  rotate_left
                  · simp only [Act.put, sA, sB, sC, i64_w, i32_w]
                    rfl
                  refine pure_ (i := 15) (N := some 133) (v := ?_) (a' := ?_) qq.m15 rfl rfl (any_of HT_.out (by kernel_rfl)) (fun _ _ _ h => h) (Or.inl ⟨by rfl, ?_⟩) ?_ ?_
                  rotate_left
                  · intro w'
                    go_simp
                    with_reducible rfl
                  rotate_left
                  · simp only [Act.put, sA, sB, sC, i64_w, i32_w]
                    rfl
                  refine pure_ (i := 16) (N := some 134) (v := ?_) (a' := ?_) qq.m16 rfl rfl (any_of HT_.out (by kernel_rfl)) (fun _ _ _ h => h) (Or.inl ⟨by rfl, ?_⟩) ?_ ?_
                  rotate_left
                  · intro w'
                    go_simp
                    with_reducible rfl
                  rotate_left
                  · simp only [Act.put, sA, sB, sC, i64_w, i32_w]
                    rfl
                  refine pure_ (i := 17) (N := some 135) (v := ?_) (a' := ?_) qq.m17 rfl rfl (any_of HT_.out (by kernel_rfl)) (fun _ _ _ h => h) (Or.inl ⟨by rfl, ?_⟩) ?_ ?_
                  rotate_left
                  · intro w'
                    go_simp
                    with_reducible rfl
                  rotate_left
                  · simp only [Act.put, sA, sB, sC, i64_w, i32_w]
                    rfl
                  refine take_ (i := 18) (N := some 136) (v := ?_) (a' := ?_) qq.m18 rfl rfl (take_ofW HT_.out HW_.out (by kernel_rfl)) (fun _ _ _ h => h) (Or.inl ⟨by rfl, ?_⟩) hh ?_ ?_
                  rotate_left
                  · rintro w' ⟨s0, s1, s2, s3, s4, s5, s6, s7, s8, s9⟩
                    refine row_yields 30 (.tmp 11) ?_ g11 ?_ 30 (setArr u) (0, 0) _ s1.hd Try.underlying30 rfl (by rw [setArr_size, Hul.out] <;> exact info30)
                    · rfl
                    · rfl
                  rotate_left
                  · simp only [Act.put, sA, sB, sC, i64_w, i32_w]
                    rfl
                  refine one_ (i := 19) (N := some 137) qq.m19 rfl rfl (one_of HT_.out (by kernel_rfl)) (by decide) (fun K hK => ?_)
                  refine goes_ Try.func25 (by kernel_rfl) rfl #[.agg (setArr u)] (by rfl) rfl rfl (by simp only [List.map_toArray, List.map_cons, List.map_nil]; rfl) ?_
                  with_reducible refine (set_cnt u 0 Hul.out Huc.out _).mono ?_
                  rintro e w62 ⟨rfl, hb⟩
                  refine ⟨_, rfl, ?_⟩
                  refine hK.out _ _ ⟨(below_step hh.1 hb), (hh.2.1.keep hb), (keep hb hh.2.2.1), (keep hb hh.2.2.2.1), (keep hb hh.2.2.2.2.1), (keep hb hh.2.2.2.2.2.1), (keep hb hh.2.2.2.2.2.2.1), (keep hb hh.2.2.2.2.2.2.2.1), (keep hb hh.2.2.2.2.2.2.2.2.1), (keep hb hh.2.2.2.2.2.2.2.2.2)⟩ (fun hH2 => ?_)
                  clear hK K hh
                  try clear hb
                  have hh := hH2
                  clear hH2
                  refine norm_ (a' := ?_) ?_ ?_
                  rotate_left
                  · show Act.put _ (some 137) _ = _
                    simp only [Act.put, sA, sB, sC, i64_w, i32_w]
                    rfl
                  refine pure_ (i := 20) (N := some 138) (v := ?_) (a' := ?_) qq.m20 rfl rfl (any_of HT_.out (by kernel_rfl)) (fun _ _ _ h => h) (Or.inl ⟨by rfl, ?_⟩) ?_ ?_
                  rotate_left
                  · intro w'
                    go_simp
                    with_reducible rfl
                  rotate_left
                  · simp only [Act.put, sA, sB, sC, i64_w, i32_w]
                    rfl
                  refine pure_ (i := 21) (N := some 139) (v := ?_) (a' := ?_) qq.m21 rfl rfl (any_of HT_.out (by kernel_rfl)) (fun _ _ _ h => h) (Or.inl ⟨by rfl, ?_⟩) ?_ ?_
                  rotate_left
                  · intro w'
                    go_simp
                    with_reducible rfl
                  rotate_left
                  · simp only [Act.put, sA, sB, sC, i64_w, i32_w]
                    rfl
                  refine pure_ (i := 22) (N := some 140) (v := ?_) (a' := ?_) qq.m22 rfl rfl (any_of HT_.out (by kernel_rfl)) (fun _ _ _ h => h) (Or.inl ⟨by rfl, ?_⟩) ?_ ?_
                  rotate_left
                  · intro w'
                    go_simp
                    with_reducible rfl
                  rotate_left
                  · simp only [Act.put, sA, sB, sC, i64_w, i32_w]
                    rfl
                  refine pure_ (i := 23) (N := some 141) (v := ?_) (a' := ?_) qq.m23 rfl rfl (any_of HT_.out (by kernel_rfl)) (fun _ _ _ h => h) (Or.inl ⟨by rfl, ?_⟩) ?_ ?_
                  rotate_left
                  · intro w'
                    go_simp
                    with_reducible rfl
                  rotate_left
                  · simp only [Act.put, sA, sB, sC, i64_w, i32_w]
                    rfl
                  refine pure_ (i := 24) (N := some 142) (v := ?_) (a' := ?_) qq.m24 rfl rfl (any_of HT_.out (by kernel_rfl)) (fun _ _ _ h => h) (Or.inl ⟨by rfl, ?_⟩) ?_ ?_
                  rotate_left
                  · intro w'
                    go_simp
                    with_reducible rfl
                  rotate_left
                  · simp only [Act.put, sA, sB, sC, i64_w, i32_w]
                    rfl
                  refine pure_ (i := 25) (N := some 143) (v := ?_) (a' := ?_) qq.m25 rfl rfl (any_of HT_.out (by kernel_rfl)) (fun _ _ _ h => h) (Or.inl ⟨by rfl, ?_⟩) ?_ ?_
                  rotate_left
                  · intro w'
                    go_simp
                    with_reducible rfl
                  rotate_left
                  · simp only [Act.put, sA, sB, sC, i64_w, i32_w]
                    rfl
                  refine pure_ (i := 26) (N := some 144) (v := undef) (a' := ?_) qq.m26 rfl rfl (any_of HT_.out (by kernel_rfl)) (fun _ _ _ h => h) (Or.inr ⟨by rfl, rfl⟩) ?_ ?_
                  rotate_left
                  · simp only [Act.put, sA, sB, sC, i64_w, i32_w]
                    rfl
                  refine pure_ (i := 27) (N := some 145) (v := undef) (a' := ?_) qq.m65 rfl rfl (any_of HT_.out (by kernel_rfl)) (fun _ _ _ h => h) (Or.inr ⟨by rfl, rfl⟩) ?_ ?_
                  rotate_left
                  · simp only [Act.put, sA, sB, sC, i64_w, i32_w]
                    rfl
                  refine pure_ (i := 28) (N := some 146) (v := undef) (a' := ?_) qq.m29 rfl rfl (any_of HT_.out (by kernel_rfl)) (fun _ _ _ h => h) (Or.inr ⟨by rfl, rfl⟩) ?_ ?_
                  rotate_left
                  · simp only [Act.put, sA, sB, sC, i64_w, i32_w]
                    rfl
                  refine pure_ (i := 29) (N := some 147) (v := undef) (a' := ?_) qq.m28 rfl rfl (any_of HT_.out (by kernel_rfl)) (fun _ _ _ h => h) (Or.inr ⟨by rfl, rfl⟩) ?_ ?_
                  rotate_left
                  · simp only [Act.put, sA, sB, sC, i64_w, i32_w]
                    rfl
                  refine pure_ (i := 30) (N := some 148) (v := undef) (a' := ?_) qq.m31 rfl rfl (any_of HT_.out (by kernel_rfl)) (fun _ _ _ h => h) (Or.inr ⟨by rfl, rfl⟩) ?_ ?_
                  rotate_left
                  · simp only [Act.put, sA, sB, sC, i64_w, i32_w]
                    rfl
                  refine pure_ (i := 31) (N := some 149) (v := undef) (a' := ?_) qq.m32 rfl rfl (any_of HT_.out (by kernel_rfl)) (fun _ _ _ h => h) (Or.inr ⟨by rfl, rfl⟩) ?_ ?_
                  rotate_left
                  · simp only [Act.put, sA, sB, sC, i64_w, i32_w]
                    rfl
                  refine pure_ (i := 32) (N := some 150) (v := ?_) (a' := ?_) qq.m33 rfl rfl (any_of HT_.out (by kernel_rfl)) (fun _ _ _ h => h) (Or.inl ⟨by rfl, ?_⟩) ?_ ?_
                  rotate_left
                  · intro w'
                    go_simp
                    with_reducible rfl
                  rotate_left
                  · simp only [Act.put, sA, sB, sC, i64_w, i32_w]
                    rfl
                  refine pure_ (i := 33) (N := some 151) (v := ?_) (a' := ?_) qq.m34 rfl rfl (any_of HT_.out (by kernel_rfl)) (fun _ _ _ h => h) (Or.inl ⟨by rfl, ?_⟩) ?_ ?_
                  rotate_left
                  · intro w'
                    go_simp
                    with_reducible rfl
                  rotate_left
                  · simp only [Act.put, sA, sB, sC, i64_w, i32_w]
                    rfl
                  refine pure_ (i := 34) (N := some 152) (v := ?_) (a' := ?_) qq.m35 rfl rfl (any_of HT_.out (by kernel_rfl)) (fun _ _ _ h => h) (Or.inl ⟨by rfl, ?_⟩) ?_ ?_
                  rotate_left
                  · intro w'
                    go_simp
                    with_reducible rfl
                  rotate_left
                  · simp only [Act.put, sA, sB, sC, i64_w, i32_w]
                    rfl
                  refine pure_ (i := 35) (N := some 153) (v := ?_) (a' := ?_) qq.m36 rfl rfl (any_of HT_.out (by kernel_rfl)) (fun _ _ _ h => h) (Or.inl ⟨by rfl, ?_⟩) ?_ ?_
                  rotate_left
                  · intro w'
                    go_simp
                    with_reducible rfl
                  rotate_left
                  · simp only [Act.put, sA, sB, sC, i64_w, i32_w]
                    rfl
                  refine pure_ (i := 36) (N := some 154) (v := ?_) (a' := ?_) qq.m37 rfl rfl (any_of HT_.out (by kernel_rfl)) (fun _ _ _ h => h) (Or.inl ⟨by rfl, ?_⟩) ?_ ?_
                  rotate_left
                  · intro w'
                    go_simp
                    with_reducible rfl
                  rotate_left
                  · simp only [Act.put, sA, sB, sC, i64_w, i32_w]
                    rfl
                  refine pure_ (i := 37) (N := some 155) (v := ?_) (a' := ?_) qq.m38 rfl rfl (any_of HT_.out (by kernel_rfl)) (fun _ _ _ h => h) (Or.inl ⟨by rfl, ?_⟩) ?_ ?_
                  rotate_left
                  · intro w'
                    go_simp
                    with_reducible rfl
                  rotate_left
                  · simp only [Act.put, sA, sB, sC, i64_w, i32_w]
                    rfl
                  refine pure_ (i := 39) (N := some 157) (v := ?_) (a' := ?_) qq.m66 rfl rfl (any_of HT_.out (by kernel_rfl)) (fun _ _ _ h => h) (Or.inl ⟨by rfl, ?_⟩) ?_ ?_
                  rotate_left
                  · intro w'
                    go_simp
                    with_reducible rfl
                  rotate_left
                  · simp only [Act.put, sA, sB, sC, i64_w, i32_w]
                    rfl
                  refine take_ (i := 38) (N := some 156) (v := ?_) (a' := ?_) qq.m40 rfl rfl (take_ofW HT_.out HW_.out (by kernel_rfl)) (fun _ _ _ h => h) (Or.inl ⟨by rfl, ?_⟩) hh ?_ ?_
                  rotate_left
                  · rintro w' ⟨s0, s1, s2, s3, s4, s5, s6, s7, s8, s9⟩
                    go_simp
                    with_reducible rfl
                  rotate_left
                  · simp only [Act.put, sA, sB, sC, i64_w, i32_w]
                    rfl
                  refine pure_ (i := 40) (N := some 158) (v := ?_) (a' := ?_) qq.m41 rfl rfl (any_of HT_.out (by kernel_rfl)) (fun _ _ _ h => h) (Or.inl ⟨by rfl, ?_⟩) ?_ ?_
                  rotate_left
                  · intro w'
                    go_simp
                    with_reducible rfl
                  rotate_left
                  · simp only [Act.put, sA, sB, sC, i64_w, i32_w]
                    rfl
                  refine pure_ (i := 41) (N := some 159) (v := ?_) (a' := ?_) qq.m42 rfl rfl (any_of HT_.out (by kernel_rfl)) (fun _ _ _ h => h) (Or.inl ⟨by rfl, ?_⟩) ?_ ?_
                  rotate_left
                  · intro w'
                    go_simp
                    with_reducible rfl
                  rotate_left
                  · simp only [Act.put, sA, sB, sC, i64_w, i32_w]
                    rfl
                  refine pure_ (i := 42) (N := some 160) (v := ?_) (a' := ?_) qq.m43 rfl rfl (any_of HT_.out (by kernel_rfl)) (fun _ _ _ h => h) (Or.inl ⟨by rfl, ?_⟩) ?_ ?_
                  rotate_left
                  · intro w'
                    go_simp
                    with_reducible rfl
                  rotate_left
                  · simp only [Act.put, sA, sB, sC, i64_w, i32_w]
                    rfl
                  refine pure_ (i := 43) (N := some 161) (v := ?_) (a' := ?_) qq.m44 rfl rfl (any_of HT_.out (by kernel_rfl)) (fun _ _ _ h => h) (Or.inl ⟨by rfl, ?_⟩) ?_ ?_
                  rotate_left
                  · intro w'
                    go_simp
                    with_reducible rfl
                  rotate_left
                  · simp only [Act.put, sA, sB, sC, i64_w, i32_w]
                    rfl
                  refine pure_ (i := 47) (N := some 165) (v := ?_) (a' := ?_) qq.m45 rfl rfl (any_of HT_.out (by kernel_rfl)) (fun _ _ _ h => h) (Or.inl ⟨by rfl, ?_⟩) ?_ ?_
                  rotate_left
                  · intro w'
                    go_simp
                    with_reducible rfl
                  rotate_left
                  · simp only [Act.put, sA, sB, sC, i64_w, i32_w]
                    rfl
                  refine take_ (i := 44) (N := some 162) (v := ?_) (a' := ?_) qq.m46 rfl rfl (take_ofW HT_.out HW_.out (by kernel_rfl)) (fun _ _ _ h => h) (Or.inl ⟨by rfl, ?_⟩) hh ?_ ?_
                  rotate_left
                  · rintro w' ⟨s0, s1, s2, s3, s4, s5, s6, s7, s8, s9⟩
                    go_simp
                    with_reducible rfl
                  rotate_left
                  · simp only [Act.put, sA, sB, sC, i64_w, i32_w]
                    rfl
                  refine take_ (i := 45) (N := some 163) (v := ?_) (a' := ?_) qq.m47 rfl rfl (take_ofW HT_.out HW_.out (by kernel_rfl)) (fun _ _ _ h => h) (Or.inl ⟨by rfl, ?_⟩) hh ?_ ?_
                  rotate_left
                  · rintro w' ⟨s0, s1, s2, s3, s4, s5, s6, s7, s8, s9⟩
                    go_simp
                    with_reducible rfl
                  rotate_left
                  · simp only [Act.put, sA, sB, sC, i64_w, i32_w]
                    rfl
                  refine one_ (i := 46) (N := some 164) qq.m48 rfl rfl (one_of HT_.out (by kernel_rfl)) (by decide) (fun K hK => ?_)
                  refine goes_ Try.func22 (by kernel_rfl) rfl #[.agg #[.int .i64 a, .int .i64 m], .agg #[.int .i64 b, .int .i64 n]] (by rfl) rfl rfl (by simp only [List.map_toArray, List.map_cons, List.map_nil]; rfl) ?_
                  with_reducible refine (span_Touch.calls a m b n false _ HT.out.touch).mono ?_
                  rintro e w66 ⟨rfl, hb⟩
                  refine ⟨_, rfl, ?_⟩
                  refine hK.out _ _ ⟨(below_step hh.1 hb), (hh.2.1.keep hb), (keep hb hh.2.2.1), (keep hb hh.2.2.2.1), (keep hb hh.2.2.2.2.1), (keep hb hh.2.2.2.2.2.1), (keep hb hh.2.2.2.2.2.2.1), (keep hb hh.2.2.2.2.2.2.2.1), (keep hb hh.2.2.2.2.2.2.2.2.1), (keep hb hh.2.2.2.2.2.2.2.2.2)⟩ (fun hH2 => ?_)
                  clear hK K hh
                  try clear hb
                  have hh := hH2
                  clear hH2
                  refine norm_ (a' := ?_) ?_ ?_
                  rotate_left
                  · show Act.put _ (some 164) _ = _
                    simp only [Act.put, sA, sB, sC, i64_w, i32_w]
                    rfl
                  refine pure_ (i := 48) (N := some 166) (v := ?_) (a' := ?_) qq.m49 rfl rfl (any_of HT_.out (by kernel_rfl)) (fun _ _ _ h => h) (Or.inl ⟨by rfl, ?_⟩) ?_ ?_
                  rotate_left
                  · intro w'
                    go_simp
                    with_reducible rfl
                  rotate_left
                  · simp only [Act.put, sA, sB, sC, i64_w, i32_w]
                    rfl
                  refine pure_ (i := 49) (N := some 167) (v := ?_) (a' := ?_) qq.m50 rfl rfl (any_of HT_.out (by kernel_rfl)) (fun _ _ _ h => h) (Or.inl ⟨by rfl, ?_⟩) ?_ ?_
                  rotate_left
                  · intro w'
                    go_simp
                    with_reducible rfl
                  rotate_left
                  · simp only [Act.put, sA, sB, sC, i64_w, i32_w]
                    rfl
                  refine pure_ (i := 50) (N := some 168) (v := ?_) (a' := ?_) qq.m51 rfl rfl (any_of HT_.out (by kernel_rfl)) (fun _ _ _ h => h) (Or.inl ⟨by rfl, ?_⟩) ?_ ?_
                  rotate_left
                  · intro w'
                    go_simp
                    with_reducible rfl
                  rotate_left
                  · simp only [Act.put, sA, sB, sC, i64_w, i32_w]
                    rfl
                  refine pure_ (i := 51) (N := some 169) (v := ?_) (a' := ?_) qq.m52 rfl rfl (any_of HT_.out (by kernel_rfl)) (fun _ _ _ h => h) (Or.inl ⟨by rfl, ?_⟩) ?_ ?_
                  rotate_left
                  · intro w'
                    go_simp
                    with_reducible rfl
                  rotate_left
                  · simp only [Act.put, sA, sB, sC, i64_w, i32_w]
                    rfl
                  refine pure_ (i := 52) (N := some 170) (v := ?_) (a' := ?_) qq.m53 rfl rfl (any_of HT_.out (by kernel_rfl)) (fun _ _ _ h => h) (Or.inl ⟨by rfl, ?_⟩) ?_ ?_
                  rotate_left
                  · intro w'
                    go_simp
                    with_reducible rfl
                  rotate_left
                  · simp only [Act.put, sA, sB, sC, i64_w, i32_w]
                    rfl
                  refine pure_ (i := 53) (N := some 171) (v := ?_) (a' := ?_) qq.m54 rfl rfl (any_of HT_.out (by kernel_rfl)) (fun _ _ _ h => h) (Or.inl ⟨by rfl, ?_⟩) ?_ ?_
                  rotate_left
                  · intro w'
                    go_simp
                    with_reducible rfl
                  rotate_left
                  · simp only [Act.put, sA, sB, sC, i64_w, i32_w]
                    rfl
                  refine pure_ (i := 54) (N := some 172) (v := ?_) (a' := ?_) qq.m55 rfl rfl (any_of HT_.out (by kernel_rfl)) (fun _ _ _ h => h) (Or.inl ⟨by rfl, ?_⟩) ?_ ?_
                  rotate_left
                  · intro w'
                    go_simp
                    with_reducible rfl
                  rotate_left
                  · simp only [Act.put, sA, sB, sC, i64_w, i32_w]
                    rfl
                  refine pure_ (i := 55) (N := some 173) (v := ?_) (a' := ?_) qq.m56 rfl rfl (any_of HT_.out (by kernel_rfl)) (fun _ _ _ h => h) (Or.inl ⟨by rfl, ?_⟩) ?_ ?_
                  rotate_left
                  · intro w'
                    go_simp
                    with_reducible rfl
                  rotate_left
                  · simp only [Act.put, sA, sB, sC, i64_w, i32_w]
                    rfl
                  refine pure_ (i := 56) (N := some 174) (v := ?_) (a' := ?_) qq.m57 rfl rfl (any_of HT_.out (by kernel_rfl)) (fun _ _ _ h => h) (Or.inl ⟨by rfl, ?_⟩) ?_ ?_
                  rotate_left
                  · intro w'
                    go_simp
                    with_reducible rfl
                  rotate_left
                  · simp only [Act.put, sA, sB, sC, i64_w, i32_w]
                    rfl
                  refine pure_ (i := 57) (N := some 175) (v := ?_) (a' := ?_) qq.m58 rfl rfl (any_of HT_.out (by kernel_rfl)) (fun _ _ _ h => h) (Or.inl ⟨by rfl, ?_⟩) ?_ ?_
                  rotate_left
                  · intro w'
                    go_simp
                    with_reducible rfl
                  rotate_left
                  · simp only [Act.put, sA, sB, sC, i64_w, i32_w]
                    rfl
                  refine pure_ (i := 58) (N := some 176) (v := ?_) (a' := ?_) qq.m59 rfl rfl (any_of HT_.out (by kernel_rfl)) (fun _ _ _ h => h) (Or.inl ⟨by rfl, ?_⟩) ?_ ?_
                  rotate_left
                  · intro w'
                    go_simp
                    with_reducible rfl
                  rotate_left
                  · simp only [Act.put, sA, sB, sC, i64_w, i32_w]
                    rfl
                  refine pure_ (i := 60) (N := some 178) (v := ?_) (a' := ?_) qq.m67 rfl rfl (any_of HT_.out (by kernel_rfl)) (fun _ _ _ h => h) (Or.inl ⟨by rfl, ?_⟩) ?_ ?_
                  rotate_left
                  · intro w'
                    go_simp
                    with_reducible rfl
                  rotate_left
                  · simp only [Act.put, sA, sB, sC, i64_w, i32_w]
                    rfl
                  refine take_ (i := 59) (N := some 177) (v := ?_) (a' := ?_) qq.m61 rfl rfl (take_ofW HT_.out HW_.out (by kernel_rfl)) (fun _ _ _ h => h) (Or.inl ⟨by rfl, ?_⟩) hh ?_ ?_
                  rotate_left
                  · rintro w' ⟨s0, s1, s2, s3, s4, s5, s6, s7, s8, s9⟩
                    go_simp
                    with_reducible rfl
                  rotate_left
                  · simp only [Act.put, sA, sB, sC, i64_w, i32_w]
                    rfl
                  refine pure_ (i := 61) (N := some 179) (v := ?_) (a' := ?_) qq.m62 rfl rfl (any_of HT_.out (by kernel_rfl)) (fun _ _ _ h => h) (Or.inl ⟨by rfl, ?_⟩) ?_ ?_
                  rotate_left
                  · intro w'
                    go_simp
                    with_reducible rfl
                  rotate_left
                  · simp only [Act.put, sA, sB, sC, i64_w, i32_w]
                    rfl
                  refine pure_ (i := 62) (N := some 180) (v := ?_) (a' := ?_) qq.m63 rfl rfl (any_of HT_.out (by kernel_rfl)) (fun _ _ _ h => h) (Or.inl ⟨by rfl, ?_⟩) ?_ ?_
                  rotate_left
                  · intro w'
                    go_simp
                    with_reducible rfl
                  rotate_left
                  · simp only [Act.put, sA, sB, sC, i64_w, i32_w]
                    rfl
                  refine pure_ (i := 63) (N := some 181) (v := ?_) (a' := ?_) qq.m64 rfl rfl (any_of HT_.out (by kernel_rfl)) (fun _ _ _ h => h) (Or.inl ⟨by rfl, ?_⟩) ?_ ?_
                  rotate_left
                  · intro w'
                    go_simp
                    with_reducible rfl
                  rotate_left
                  · simp only [Act.put, sA, sB, sC, i64_w, i32_w]
                    rfl
                  refine done_ (done_of HT_.out (by kernel_rfl)) ?_
                  replace HS := Aside0.mk hh.1
                  replace ZC := Aside0.mk hh.2.1
                  replace X0 := Aside0.mk hh.2.2.1
                  replace X1 := Aside0.mk hh.2.2.2.1
                  replace Y0 := Aside0.mk hh.2.2.2.2.1
                  replace Y1 := Aside0.mk hh.2.2.2.2.2.1
                  replace P0 := Aside0.mk hh.2.2.2.2.2.2.1
                  replace P1 := Aside0.mk hh.2.2.2.2.2.2.2.1
                  replace J0 := Aside0.mk hh.2.2.2.2.2.2.2.2.1
                  replace J1 := Aside0.mk hh.2.2.2.2.2.2.2.2.2
                  clear hh
                  replace HB := Aside0.mk (below_step HB.out HS.out)
                  replace A0 := Aside0.mk (A0.out.keep HS.out)
                  replace A1 := Aside0.mk (A1.out.keep HS.out)
                  replace ZA := Aside0.mk (ZA.out.keep HS.out)
                  replace ZD := Aside0.mk (ZD.out.keep HS.out)
                  replace M16 := Aside0.mk (M16.out.keep HS.out)
                  replace J19 := Aside0.mk (J19.out.keep HS.out)
                  replace HK := Aside0.mk ((HK.out.keep HS.out).top)
                  replace VL := Aside0.mk (Kd.R_below VL.out HS.out)
                  clear HS
                  clear X0 X1 Y0 Y1
                  clear P0 P1 J0 J1
                  clear hval
                  go_wp2_with fail
                  go_meet
                  case rel => exact ⟨rfl, HB, A0, A1, ZA, ZC, ZD, M16, J19, HK, VL⟩
          case rest =>
            clear HB A0 A1 ZA ZC ZD M16 J19 HK VL
            obtain ⟨rfl, HB, A0, A1, ZA, ZC, ZD, M16, J19, HK, VL⟩ := hcut
            as_aux_lemma =>
            go_upto_region 23 with fail
            go_cut [209] (fun v209 wc => v209 = .bool false ∧ Aside0 (Below w.heap.size w wc) ∧ Aside0 (Blk wc g0 24 #[.int .i64 a, .int .i64 m]) ∧ Aside0 (Blk wc g1 24 #[.int .i64 b, .int .i64 n]) ∧ Aside0 (Blk wc g9 30 (setArr sx)) ∧ Aside0 (Blk wc g11 30 (setArr u)) ∧ Aside0 (Blk wc g12 30 (setArr v)) ∧ Aside0 (Blk wc g16 24 #[.int .i64 p, .int .i64 q]) ∧ Aside0 (Blk wc g19 24 #[.int .i64 j1, .int .i64 j2]) ∧ Aside0 (KeptAt wc w.heap.size gB (fun k => wc.heap.size ≤ k) [] ([] ++ [(lessV a m b n)] ++ [(lessV a m b n)]) []) ∧ Aside0 (Kd.R k24 24 wc w.heap.size (fun _ => True) (.slice AL1 (lessV a m b n).length cL1) (lessV a m b n)))
            case first =>
              as_aux_lemma =>
              cases vt with
              | false =>
                go_wp2_with fail
                go_meet
                case rel => exact ⟨rfl, HB, A0, A1, ZA, ZC, ZD, M16, J19, HK, VL⟩
              | true =>
                obtain ⟨hva, hvb, hj1, hj2⟩ := HT.out.tt rfl
                obtain ⟨hen, b0, b1, b2, b3⟩ := HT.out.a1 hva
                obtain ⟨b4, b5, b6, b7⟩ := HT.out.b1 hvb
                clear hen hva hvb
                have e0 := J19.out.cell (i := 0) (v := .int .i64 j1) rfl
                have e1 := J19.out.cell (i := 1) (v := .int .i64 j2) rfl
                have x0 := A0.out.cell (i := 0) (v := .int .i64 a) rfl
                have x1 := A0.out.cell (i := 1) (v := .int .i64 m) rfl
                have y0 := A1.out.cell (i := 0) (v := .int .i64 b) rfl
                have y1 := A1.out.cell (i := 1) (v := .int .i64 n) rfl
                rcases Decidable.em (a ≤ b) with o1 | o1
                · rcases Decidable.em (a + m ≤ b + n) with o2 | o2
                  · have hmn : min a b = a := by omega
                    have hmx : max (a + m) (b + n) = b + n := by omega
                    rw [hmn] at hj1 hj2
                    rw [hmx] at hj2
                    rw [hj1] at e0
                    rw [hj2] at e1
                    go_wp2_with fail
                    all_goals
                      go_meet
                      case rel => exact ⟨by first | rfl | (rw [show b + n = a + m by omega]; simp), HB, A0, A1, ZA, ZC, ZD, M16, J19, HK, VL⟩
                  · have hmn : min a b = a := by omega
                    have hmx : max (a + m) (b + n) = a + m := by omega
                    rw [hmn] at hj1 hj2
                    rw [hmx] at hj2
                    rw [hj1] at e0
                    rw [hj2] at e1
                    go_wp2_with fail
                    all_goals
                      go_meet
                      case rel => exact ⟨by first | rfl | (rw [show b + n = a + m by omega]; simp), HB, A0, A1, ZA, ZC, ZD, M16, J19, HK, VL⟩
                · rcases Decidable.em (a + m ≤ b + n) with o2 | o2
                  · have hmn : min a b = b := by omega
                    have hmx : max (a + m) (b + n) = b + n := by omega
                    rw [hmn] at hj1 hj2
                    rw [hmx] at hj2
                    rw [hj1] at e0
                    rw [hj2] at e1
                    go_wp2_with fail
                    all_goals
                      go_meet
                      case rel => exact ⟨by first | rfl | (rw [show b + n = a + m by omega]; simp), HB, A0, A1, ZA, ZC, ZD, M16, J19, HK, VL⟩
                  · have hmn : min a b = b := by omega
                    have hmx : max (a + m) (b + n) = a + m := by omega
                    rw [hmn] at hj1 hj2
                    rw [hmx] at hj2
                    rw [hj1] at e0
                    rw [hj2] at e1
                    go_wp2_with fail
                    all_goals
                      go_meet
                      case rel => exact ⟨by first | rfl | (rw [show b + n = a + m by omega]; simp), HB, A0, A1, ZA, ZC, ZD, M16, J19, HK, VL⟩
            case rest =>
              clear HB A0 A1 ZA ZC ZD M16 J19 HK VL
              obtain ⟨rfl, HB, A0, A1, ZA, ZC, ZD, M16, J19, HK, VL⟩ := hcut
              as_aux_lemma =>
              have x0 := A0.out.cell (i := 0) (v := .int .i64 a) rfl
              have x1 := A0.out.cell (i := 1) (v := .int .i64 m) rfl
              have y0 := A1.out.cell (i := 0) (v := .int .i64 b) rfl
              have y1 := A1.out.cell (i := 1) (v := .int .i64 n) rfl
              go_wp2_with (with_reducible refine wpList_load_row rfl 30 (.tmp 12) rfl g12 rfl 30 _ (0, 0) _ ZD.out.hd Try.underlying30 rfl (by rw [setArr_size, Hvl.out] <;> exact info30) ?_)
              refine (set_spans v Hvl.out _).mono ?_
              rintro e w9 ⟨v, rfl, ho, hB⟩
              rw [Hvs.out] at ho
              have FR_VS : Aside0 (∀ k, Value.ownBlock v = some k → wc.heap.size ≤ k) := ⟨fun k hk => Kd.R_base (ho.to_R) k hk⟩
              have VS := Aside0.mk (Kd.R_lower (ho.to_R) HB.out.size)
              clear ho
              replace HB := Aside0.mk (below_step HB.out hB)
              replace A0 := Aside0.mk (A0.out.keep hB)
              replace A1 := Aside0.mk (A1.out.keep hB)
              replace ZA := Aside0.mk (ZA.out.keep hB)
              replace ZC := Aside0.mk (ZC.out.keep hB)
              replace ZD := Aside0.mk (ZD.out.keep hB)
              replace M16 := Aside0.mk (M16.out.keep hB)
              replace J19 := Aside0.mk (J19.out.keep hB)
              replace HK := Aside0.mk ((HK.out.keep hB).top)
              replace VL := Aside0.mk (Kd.R_below VL.out hB)
              clear hB
              obtain ⟨A9, c9, hve, hc0, hc1⟩ := Kd.R_reads VS.out
              subst hve
              have HC_VS := Aside0.mk hc0
              clear hc0 hc1
              go_wp2_with fail
              refine (same_S _ _ _ _ VL.out VS.out (by have := HLl.out; omega)).mono ?_
              rintro e w10 ⟨rfl, hB⟩
              replace HB := Aside0.mk (below_step HB.out hB)
              replace A0 := Aside0.mk (A0.out.keep hB)
              replace A1 := Aside0.mk (A1.out.keep hB)
              replace ZA := Aside0.mk (ZA.out.keep hB)
              replace ZC := Aside0.mk (ZC.out.keep hB)
              replace ZD := Aside0.mk (ZD.out.keep hB)
              replace M16 := Aside0.mk (M16.out.keep hB)
              replace J19 := Aside0.mk (J19.out.keep hB)
              replace HK := Aside0.mk ((HK.out.keep hB).top)
              replace VL := Aside0.mk (Kd.R_below VL.out hB)
              replace VS := Aside0.mk (Kd.R_below VS.out hB)
              clear hB
              clear x0 x1 y0 y1
              rcases Int.lt_or_le k 0 with hk0 | hk0
              · skip
                as_aux_lemma =>
                have hin1 : ¬ (0 : Int) ≤ k := by omega
                have Hh : Aside0 (span_Has.f a m k = some false) := ⟨by rw [has_eq, decide_eq_false (fun h => by obtain ⟨⟨h1, h2, h3⟩, h4, h5⟩ := h; omega)]⟩
                have x0 := A0.out.cell (i := 0) (v := .int .i64 a) rfl
                have x1 := A0.out.cell (i := 1) (v := .int .i64 m) rfl
                go_wp2_with fail
                refine (span_Has.calls a m k false _ Hh.out).mono ?_
                rintro e w11 ⟨rfl, hB⟩
                replace HB := Aside0.mk (below_step HB.out hB)
                replace A0 := Aside0.mk (A0.out.keep hB)
                replace A1 := Aside0.mk (A1.out.keep hB)
                replace ZA := Aside0.mk (ZA.out.keep hB)
                replace ZC := Aside0.mk (ZC.out.keep hB)
                replace ZD := Aside0.mk (ZD.out.keep hB)
                replace M16 := Aside0.mk (M16.out.keep hB)
                replace J19 := Aside0.mk (J19.out.keep hB)
                replace HK := Aside0.mk ((HK.out.keep hB).top)
                replace VL := Aside0.mk (Kd.R_below VL.out hB)
                replace VS := Aside0.mk (Kd.R_below VS.out hB)
                clear hB
                clear x0 x1
                go_wp2_with fail
                refine (kept_apart gB w.heap.size _ _ _ _ _ HK.out ⟨by simp, by simp⟩ ⟨by simp, fun x hx => by have h2 := HLl.out; simp at hx; subst hx; omega⟩ ⟨by simp, by simp⟩ HB.out.size).mono ?_
                rintro e w99 ⟨rfl, hB⟩
                go_wp2_with fail
                go_ret
                exact ⟨rfl, HB.out.trans hB⟩
              · rcases Int.lt_or_le k 64 with hk1 | hk1
                · skip
                  as_aux_lemma =>
                  obtain ⟨fk, rfl⟩ : ∃ z : Nat, k = (z : Int) := ⟨k.toNat, by omega⟩
                  have hin1 : (0 : Int) ≤ (fk : Int) := by omega
                  have hin2 : (fk : Int) < 64 := by omega
                  obtain ⟨bq, hbq⟩ : ∃ z, z = sx.getD fk false := ⟨_, rfl⟩
                  have Hh : Aside0 (span_Has.f a m (fk : Int) = some bq) := ⟨by rw [has_eq, hbq, hsx.out, spanS_get]⟩
                  have c0 := ZA.out.cell (setArr_get sx fk (by rw [Hx.out]; omega))
                  rw [← hbq] at c0
                  have C0 := Aside0.mk c0
                  clear hbq c0
                  have x0 := A0.out.cell (i := 0) (v := .int .i64 a) rfl
                  have x1 := A0.out.cell (i := 1) (v := .int .i64 m) rfl
                  go_wp2_with fail
                  refine (span_Has.calls a m (fk : Int) bq _ Hh.out).mono ?_
                  rintro e w12 ⟨rfl, hB⟩
                  replace HB := Aside0.mk (below_step HB.out hB)
                  replace A0 := Aside0.mk (A0.out.keep hB)
                  replace A1 := Aside0.mk (A1.out.keep hB)
                  replace ZA := Aside0.mk (ZA.out.keep hB)
                  replace ZC := Aside0.mk (ZC.out.keep hB)
                  replace ZD := Aside0.mk (ZD.out.keep hB)
                  replace M16 := Aside0.mk (M16.out.keep hB)
                  replace J19 := Aside0.mk (J19.out.keep hB)
                  replace HK := Aside0.mk ((HK.out.keep hB).top)
                  replace VL := Aside0.mk (Kd.R_below VL.out hB)
                  replace VS := Aside0.mk (Kd.R_below VS.out hB)
                  replace C0 := Aside0.mk (keep hB C0.out)
                  clear hB
                  clear x0 x1
                  have c0 := C0.out
                  go_wp2_with fail
                  refine (kept_apart gB w.heap.size _ _ _ _ _ HK.out ⟨by simp, by simp⟩ ⟨by simp, fun x hx => by have h2 := HLl.out; simp at hx; subst hx; omega⟩ ⟨by simp, by simp⟩ HB.out.size).mono ?_
                  rintro e w99 ⟨rfl, hB⟩
                  go_wp2_with fail
                  go_ret
                  exact ⟨rfl, HB.out.trans hB⟩
                · skip
                  as_aux_lemma =>
                  have hin1 : (0 : Int) ≤ k := by omega
                  have hin2 : ¬ k < 64 := by omega
                  have Hh : Aside0 (span_Has.f a m k = some false) := ⟨by rw [has_eq, decide_eq_false (fun h => by obtain ⟨⟨h1, h2, h3⟩, h4, h5⟩ := h; omega)]⟩
                  have x0 := A0.out.cell (i := 0) (v := .int .i64 a) rfl
                  have x1 := A0.out.cell (i := 1) (v := .int .i64 m) rfl
                  go_wp2_with fail
                  refine (span_Has.calls a m k false _ Hh.out).mono ?_
                  rintro e w13 ⟨rfl, hB⟩
                  replace HB := Aside0.mk (below_step HB.out hB)
                  replace A0 := Aside0.mk (A0.out.keep hB)
                  replace A1 := Aside0.mk (A1.out.keep hB)
                  replace ZA := Aside0.mk (ZA.out.keep hB)
                  replace ZC := Aside0.mk (ZC.out.keep hB)
                  replace ZD := Aside0.mk (ZD.out.keep hB)
                  replace M16 := Aside0.mk (M16.out.keep hB)
                  replace J19 := Aside0.mk (J19.out.keep hB)
                  replace HK := Aside0.mk ((HK.out.keep hB).top)
                  replace VL := Aside0.mk (Kd.R_below VL.out hB)
                  replace VS := Aside0.mk (Kd.R_below VS.out hB)
                  clear hB
                  clear x0 x1
                  go_wp2_with fail
                  refine (kept_apart gB w.heap.size _ _ _ _ _ HK.out ⟨by simp, by simp⟩ ⟨by simp, fun x hx => by have h2 := HLl.out; simp at hx; subst hx; omega⟩ ⟨by simp, by simp⟩ HB.out.size).mono ?_
                  rintro e w99 ⟨rfl, hB⟩
                  go_wp2_with fail
                  go_ret
                  exact ⟨rfl, HB.out.trans hB⟩
theorem walk (a m b n bl k : Int) (w : World) (_ : (Lit.int .i64 a).wf = true) (_ : (Lit.int .i64 m).wf = true) (_ : (Lit.int .i64 b).wf = true) (_ : (Lit.int .i64 n).wf = true) (_ : (Lit.int .i64 bl).wf = true) (_ : (Lit.int .i64 k).wf = true) :
    Calls Try.prog 6 #[.agg #[.int .i64 a, .int .i64 m], .agg #[.int .i64 b, .int .i64 n], .int .i64 bl, .int .i64 k] w fun e w' => e = .returned (.bool true) ∧ Below w.heap.size w w' := by
  obtain ⟨va, vb, vm, vt, p, q, j1, j2, en, cb, h⟩ := told a m b n
  exact main a m b n bl k va vb vm vt p q j1 j2 en cb w h
end Go.Proofs.Ytjbimnicnehnaaa.WSpanTells
end
