/- Parts of the proof for TrackPlays: ModelP. -/
import Derived.Test.YtffemlfdhkndiaaJTrackPlays6
import Derived.Test.YtffemlfdhkndiaaJTrackPlays5
import Derived.Test.YtffemlfdhkndiaaJTrackPlays4
import Derived.Test.YtffemlfdhkndiaaJTrackPlays7
import Derived.Test.YtffemlfdhkndiaaJTrackPlays2
section
namespace Go.Proofs.Ytffemlfdhkndiaa.Hand
open Go.RowKit Go.Proofs.YtffemlfdhkndiaaW.PrintWords Go.Proofs.YtffemlfdhkndiaaW.PrintLast Go.Proofs.YtffemlfdhkndiaaW.PrintMore Go.Proofs.Ytffemlfdhkndiaa.A Go.Proofs.Ytffemlfdhkndiaa.Bits Go.Proofs.Ytffemlfdhkndiaa.Open
set_option linter.unusedVariables false
set_option linter.unusedSimpArgs false
theorem infoS (s : List Bool) (hs : s.length = 64) : (Try.prog.info? 27).map (·.size) = some (bl s).length := by rw [List.length_map, hs]; exact info27
theorem load_set_mid {ops : Array Oper} {rest : List Oper} {op : Oper} {a : Act} {w : World} {Q : Exit → Act → World → Prop} (hgd : op.guard = none) (x : Operand) (ho : op.op = .load 27 x)
    (g o : Nat) (hx : a.eval x = .pointer (some ⟨g, o, none⟩)) (s : List Bool) (hs : s.length = 64) (hc : w.rangeAt g o (bl s))
    (h : wpList Try.prog ops Q rest (a.put op.dst (.agg (setArr s))) w) : wpList Try.prog ops Q (op :: rest) a w :=
  wpList_load_mid hgd 27 x ho g o hx (bl s) _ hc Try.underlying27 rfl (infoS s hs) h
theorem store_set_mid {ops : Array Oper} {rest : List Oper} {op : Oper} {a : Act} {w : World} {Q : Exit → Act → World → Prop} (hgd : op.guard = none) (x y : Operand) (ho : op.op = .store 27 x y)
    (g o : Nat) (s : List Bool) (hs : s.length = 64) (hx : a.eval x = .pointer (some ⟨g, o, none⟩)) (hy : a.eval y = .agg (setArr s)) (ht : w.there g o 64)
    (h : wpList Try.prog ops Q rest (a.put op.dst undef) (w.setCells g o (bl s))) : wpList Try.prog ops Q (op :: rest) a w :=
  wpList_store_mid hgd 27 x y ho g o (setArr s) hx hy (by rw [setArr_size, hs]; exact ht) (by rw [setArr_size, hs]; exact info27) (setArr_one s) h
theorem set_yields {o : Oper} {a : Act} {w : World} (x : Operand) (ho : o.op = .load 27 x)
    (g off : Nat) (hx : a.eval x = .pointer (some ⟨g, off, none⟩)) (s : List Bool) (hs : s.length = 64) (hc : w.rangeAt g off (bl s)) :
    (execOp a.eval o).run Try.prog w = .ok (.value (.agg (setArr s))) w := by
  unfold execOp
  simp only [ho, hx, Instr.loadAt, Instr.sureAddr, Sem.run_bind, Sem.run_pure, Result.andThen_ok, run_loadVar_mid w g off 27 (bl s) _ hc Try.underlying27 rfl (infoS s hs)]
  rfl
theorem bits_none (n : Nat) : bitsS n 0 = none64 := by
  refine bools_ext (bitsS_length _ _) (by simp) (fun k hk => ?_)
  rw [← Bool.eq_iff_iff, bitsS_get n 0 k hk, none64_get, Nat.zero_testBit, Bool.and_false]
abbrev spanS (a m : Int) : List Bool := putS none64 [⟨a, m⟩] true
theorem spanS_len (a m : Int) : (spanS a m).length = 64 := putS_len _ _ _ (by simp)
theorem spanS_get (a m : Int) (k : Nat) : (spanS a m).getD k false = decide (wh a m ∧ a ≤ (k : Int) ∧ (k : Int) < a + m) := by
  show (putOne none64 ⟨a, m⟩ true).getD k false = _
  rw [putOne_get _ _ _ _ (by simp), none64_get]
  by_cases h : wh a m ∧ a ≤ (k : Int) ∧ (k : Int) < a + m
  · rw [if_pos h, decide_eq_true h]
  · rw [if_neg h, decide_eq_false h]
theorem put_one (s : List Bool) (hs : Aside0 (s.length = 64)) (ad : Addr) (c : Nat) (F M : Int) (w : World) (hC : Kd.C k31 w (some ad) 1 [⟨F, M⟩]) (hc : 1 ≤ c) :
    Calls Try.prog 15 #[.agg (setArr s), .slice (some ad) 1 c, .bool true] w fun e w' => e = .returned (.agg (setArr (putS s [⟨F, M⟩] true))) ∧ Below w.heap.size w w' :=
  emulsionref1_Set_Put.calls s hs (some ad) c [⟨F, M⟩] true w hC hc
theorem upS_bits {n n' x v : Nat} {s : List Bool} (hn : n ≤ 64) (hn' : n' ≤ n) (hv : ∀ k, k < 64 → v.testBit k = (decide (k < n') && s.getD k false)) : upS (fun j => (bitsS n x).getD j false || s.getD j false) (bitsS n x) n' = bitsS n (x ||| v) := by
  refine bools_ext (upS_length _ _ _) (bitsS_length _ _) (fun k hk => ?_)
  rw [← Bool.eq_iff_iff, upS_get _ _ _ _ hk, bitsS_get n (x ||| v) k hk, bitsS_get n x k hk, Nat.testBit_or, hv k hk]
  by_cases h : k < n'
  · rw [if_pos h, decide_eq_true h, decide_eq_true (show k < n by omega)]; simp
  · rw [if_neg h, decide_eq_false h]; simp
theorem upS_same (f : Nat → Bool) (b : List Bool) (k : Nat) (hb : f k = b.getD k false) : upS f b k = upS f b (k + 1) := by
  unfold upS
  refine List.map_congr_left (fun j _ => ?_)
  by_cases h : j < k
  · rw [if_pos h, if_pos (by omega)]
  · rw [if_neg h]
    by_cases e : j = k
    · subst e; rw [if_pos (by omega), hb]
    · rw [if_neg (by omega)]
theorem mark_get (n : Nat) (F M : Int) (k : Nat) (hk : k < 64) : (markV n F M).testBit k = (decide (k < n) && (spanS F M).getD k false) := by
  rw [markV_test, spanS_get, Bool.and_comm]
theorem cntB_le (f : Nat → Bool) : ∀ n, cntB f n ≤ n
  | 0 => Nat.le_refl _
  | n + 1 => by have := cntB_le f n; unfold cntB; split <;> omega
theorem cntB_ext (f : Nat → Bool) (n : Nat) : ∀ m, (∀ k, n ≤ k → f k = false) → n ≤ m → cntB f m = cntB f n
  | 0, _, h => by rw [Nat.le_zero.1 h]
  | m + 1, h, hm => by
    by_cases e : n = m + 1
    · rw [e]
    · show cntB f m + _ = _
      rw [cntB_ext f n m h (by omega), h m (by omega)]; simp
/-- How many are new. -/
theorem cnt_marks (n x : Nat) (F M : Int) (hn : n ≤ 64) : cntB (fun j => (spanS F M).getD j false && !(bitsS n x).getD j false) n = cnt (minus (markV n F M) x) := by
  show _ = sumd 2 64 _
  rw [sumd_cntB, cntB_ext (fun k => (minus (markV n F M) x).testBit k) n 64 (fun k hk => ?_) hn]
  · refine cntB_congr n (fun k hk => ?_)
    rw [minus_test _ _ k (by omega), mark_get n F M k (by omega), bitsS_get n x k (by omega), decide_eq_true hk]; simp
  · by_cases h : k < 64
    · rw [minus_test _ _ k h, mark_get n F M k h, decide_eq_false (by omega)]; rfl
    · exact Nat.testBit_lt_two_pow (Nat.lt_of_le_of_lt (minus_le _ _) (Nat.lt_of_lt_of_le (markV_lt n F M) (by rw [show (18446744073709551616 : Nat) = 2 ^ 64 from rfl]; exact Nat.pow_le_pow_right (by decide) (by omega))))
/-- What a track's numbers come to. -/
def Inv (n x1 x2 : Nat) (l2 b : Bool) : Prop := x1 < 18446744073709551616 ∧ x2 < 18446744073709551616 ∧ Hi n x1 ∧ Hi n x2 ∧ (b = false → x2 = 0 ∧ l2 = false)
theorem Inv.zero (n : Nat) : Inv n 0 0 false false := ⟨by decide, by decide, Hi.zero n, Hi.zero n, fun _ => ⟨rfl, rfl⟩⟩
theorem mark_nil (n : Nat) : spansOf (markS n 0 false) = [] := by
  show spansOf (bitsS n 0) = []
  rw [bits_none]
  rfl
theorem opsC_at {w : World} {ad : Addr} {l : List Op6} {i : Nat} {x : Op6} (h : OpsC w (some ad) l) (hx : l[i]? = some x) : w.cell? (ad.add (i * 3)) = some (.int .i64 x.kind) ∧ w.cell? ⟨(ad.add (i * 3)).block, (ad.add (i * 3)).off + 1, none⟩ = some (.int .i64 x.f0) ∧ w.cell? ⟨(ad.add (i * 3)).block, (ad.add (i * 3)).off + 2, none⟩ = some (.int .i64 x.f1) := by
  obtain ⟨ad', e, hc⟩ := h.2 (by have := (List.getElem?_eq_some_iff.1 hx).1; omega)
  injection e with e
  subst e
  exact hc i x hx
theorem R_len' {w : World} {B c : Nat} {A : Option Addr} {T : List S31} (h : Kd.R k31 31 w B (fun _ => True) (.slice A T.length c) T) : T.length ≤ c := (Kd.R_reads' h).2.1
theorem same_C (A : Option Addr) (c : Nat) (B : Option Addr) (d : Nat) (T : List S31) (hc : T.length ≤ c) (hd : T.length ≤ d) (hT : T.length ≤ 1000000) (w : World) (hA : Kd.C k31 w A T.length T) (hB : Kd.C k31 w B T.length T) :
    Calls Try.prog 28 #[.slice A T.length c, .slice B T.length d] w fun e w' => e = .returned (.bool true) ∧ Below w.heap.size w w' := by
  refine (emulsionbook_SameSpans.calls (T.length + 1) A c T B d T true w hA hc hB hd (sameSpans_f T (by omega) _ (by omega))).mono ?_
  rintro e w' ⟨rfl, hd⟩
  exact ⟨rfl, drawnB hd⟩
theorem frozen_any (base gt n x1 x2 : Nat) (l1 l2 b : Bool) (w : World) (hn : n ≤ 64) (hi : Inv n x1 x2 l2 b) (h : TrackAt w base gt n x1 x2 l1 l2 b) :
    Calls Try.prog 38 #[ptr gt] w fun e w' => ∃ gr, e = .returned (ptrR gr) ∧ w.heap.size ≤ gr ∧ RunsAt w' w.heap.size gr (spansOf (markS n x2 l2)) ∧ Below w.heap.size w w' := by
  cases b
  · obtain ⟨rfl, rfl⟩ := hi.2.2.2.2 rfl
    rw [mark_nil]
    exact frozen_idle base gt n x1 0 l1 false w hn (by decide) h
  · exact frozen_ok base gt n x1 x2 l1 l2 w hn hi.2.1 h
theorem trackg_freeze_any (G : Nat → Prop) (gt n x1 x2 : Nat) (l1 l2 b : Bool) (w : World) (hG : ∀ k, G k → k < w.heap.size) (h : TrackG w G gt n x1 x2 l1 l2 b) (hn : n ≤ 64) :
    Calls Try.prog 37 #[ptr gt] w fun e w' => ∃ r y1 y2 m1 m2 c, e = .returned (.int .i64 r) ∧ TrackG w' G gt n y1 y2 m1 m2 c ∧ DeepG G w w' := by
  refine (trackg_freeze G gt n x1 x2 l1 l2 b w hG h hn).mono ?_
  rintro e w' ⟨rfl, h1, h2⟩
  cases b
  · exact ⟨_, _, _, _, _, _, rfl, h1, h2⟩
  · exact ⟨_, _, _, _, _, _, rfl, h1, h2⟩
end Go.Proofs.Ytffemlfdhkndiaa.Hand
end
