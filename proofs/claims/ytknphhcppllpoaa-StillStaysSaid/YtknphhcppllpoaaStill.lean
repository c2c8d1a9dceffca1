/- Volumes that are frozen (still), walked. -/
import Derived.Test.YtknphhcppllpoaaFilm
import Derived.Test.YtknphhcppllpoaaIMap
import Derived.Test.YtknphhcppllpoaaSpanB
import Derived.Test.YtknphhcppllpoaaBits
import Derived.Test.YtknphhcppllpoaaAx2
namespace Go.Proofs.Ytknphhcppllpoaa.Hand
open Go.RowKit Go.Proofs.YtknphhcppllpoaaW.PrintWords Go.Proofs.YtknphhcppllpoaaW.PrintLast Go.Proofs.YtknphhcppllpoaaW.PrintMore Go.Proofs.Ytknphhcppllpoaa.A Go.Proofs.Ytknphhcppllpoaa.Bits
set_option linter.unusedVariables false
set_option linter.unusedSimpArgs false
attribute [local go_sem] max2_int min2_int max_two min_two max_three min_three max_four min_four
/-- Only some blocks have turned. -/
structure Chg (w w' : World) (S : List Nat) : Prop where
  os : w'.os = w.os
  tape : w'.tape = w.tape
  output : w'.output = w.output
  size : w.heap.size ≤ w'.heap.size
  block : ∀ i, i < w.heap.size → i ∉ S → w'.heap[i]? = w.heap[i]?
section
variable {w w1 w2 : World} {S : List Nat}
theorem Chg.refl (w : World) (S : List Nat) : Chg w w S := ⟨rfl, rfl, rfl, Nat.le_refl _, fun _ _ _ => rfl⟩
theorem Chg.below (h : Chg w w1 S) (hb : Below w1.heap.size w1 w2) : Chg w w2 S :=
  ⟨hb.os.trans h.os, hb.tape.trans h.tape, hb.output.trans h.output, Nat.le_trans h.size hb.size, fun i hi hn => (hb.block i (Nat.lt_of_lt_of_le hi h.size)).trans (h.block i hi hn)⟩
theorem Chg.of (hb : Below w.heap.size w w1) (S : List Nat) : Chg w w1 S := (Chg.refl w S).below hb
theorem Chg.only {g : Nat} (h : Chg w w1 S) (ho : Only w1 w2 g) (hg : g ∈ S ∨ w.heap.size ≤ g) : Chg w w2 S :=
  ⟨ho.os.trans h.os, ho.tape.trans h.tape, ho.output.trans h.output, Nat.le_trans h.size ho.size, fun i hi hn => (ho.block i (Nat.lt_of_lt_of_le hi h.size) (fun e => by injection e with e; subst e; rcases hg with hg | hg; exact hn hg; omega)).trans (h.block i hi hn)⟩
theorem Chg.drew (h : Chg w w1 S) : Chg w w1.drew S := ⟨h.os, h.tape, h.output, h.size, h.block⟩
theorem Chg.alloc (h : Chg w w1 S) (o : Obj) : Chg w (w1.alloc o) S := h.below (below_alloc (Below.refl _ _) _)
theorem Chg.trans {T : List Nat} (h : Chg w w1 S) (k : Chg w1 w2 T) (hT : ∀ i ∈ T, i ∈ S ∨ w.heap.size ≤ i) : Chg w w2 S :=
  ⟨k.os.trans h.os, k.tape.trans h.tape, k.output.trans h.output, Nat.le_trans h.size k.size, fun i hi hn => (k.block i (Nat.lt_of_lt_of_le hi h.size) (fun e => by rcases hT i e with hg | hg; exact hn hg; omega)).trans (h.block i hi hn)⟩
theorem below_chg {a : World} (h : Below a.heap.size a w) (k : Chg w w1 S) (hS : ∀ i ∈ S, a.heap.size ≤ i) : Below a.heap.size a w1 :=
  ⟨k.os.trans h.os, k.tape.trans h.tape, k.output.trans h.output, Nat.le_trans h.size k.size, fun i hi => (k.block i (Nat.lt_of_lt_of_le hi h.size) (fun e => by have := hS i e; omega)).trans (h.block i hi)⟩
theorem Blk.chg {g t : Nat} {cs : Array Value} (h : Blk w g t cs) (k : Chg w w1 S) (hg : g ∉ S) : Blk w1 g t cs := (k.block g h.lt hg).trans h
theorem MapAt.chg {b : Nat} {es : EL} (h : MapAt w b es) (k : Chg w w1 S) (hg : b ∉ S) : MapAt w1 b es := h.move (k.block b h.lt hg)
theorem FilmAt.chg {g q : Nat} {l : List UInt8} (h : FilmAt w g q l) (k : Chg w w1 S) (hg : g ∉ S) (hq : q ∉ S) : FilmAt w1 g q l := h.move (k.block g h.lt.1 hg) (k.block q h.lt.2 hq)
end
/-- A volume that is frozen: the volume, the map of what is kept, what was let go. -/
abbrev StillAt (w : World) (g gf m : Nat) (gone : Nat) : Prop := Blk w g 56 #[.pointer (some ⟨gf, 0, none⟩), .map (some m), .int .u64 (gone : Int)]
theorem Blk.ne_map {w : World} {g t m : Nat} {cs : Array Value} {es : EL} (h : Blk w g t cs) (hm : MapAt w m es) : g ≠ m := fun e => hm.ne h.hd e.symm
theorem FilmAt.ne_map {w : World} {g q m : Nat} {l : List UInt8} {es : EL} (h : FilmAt w g q l) (hm : MapAt w m es) : g ≠ m ∧ q ≠ m := by
  obtain ⟨c, hb, _, cs, fr, hq, _⟩ := h
  exact ⟨fun e => hm.ne hb.hd e.symm, fun e => hm.ne hq e.symm⟩
theorem FilmAt.ne_blk {w : World} {g q p t : Nat} {cs : Array Value} {l : List UInt8} (h : FilmAt w g q l) (hp : Blk w p t cs) (h1 : t ≠ 52) (h2 : t ≠ 5) : g ≠ p ∧ q ≠ p := by
  obtain ⟨c, hb, _, cs', fr, hq, _⟩ := h
  refine ⟨?_, ?_⟩
  · rintro rfl
    have e := hb.hd.symm.trans hp.hd
    injection e with e; injection e with _ e
    exact h1 e.symm
  · rintro rfl
    have e := hq.symm.trans hp.hd
    injection e with e; injection e with _ e
    exact h2 e.symm
/-- What is kept when so many blocks from one on are touched. -/
def keepE (l : List UInt8) (gone k0 : Nat) : Nat → EL → EL
  | 0, es => es
  | n + 1, es => if lookE ((k0 + n : Nat) : Int) (keepE l gone k0 n es) = none ∧ gone.testBit (k0 + n) = false then updE ((k0 + n : Nat) : Int) (.string (blkS l (k0 + n))) (keepE l gone k0 n es) else keepE l gone k0 n es
theorem keepE_look (l : List UInt8) (gone k0 : Nat) (es : EL) (j : Int) : ∀ n, lookE j (keepE l gone k0 n es) = if (lookE j es = none ∧ (k0 : Int) ≤ j ∧ j < k0 + n) ∧ gone.testBit j.toNat = false then some (.string (blkS l j.toNat)) else lookE j es
  | 0 => by unfold keepE; rw [if_neg (by omega)]
  | n + 1 => by
    have ih := keepE_look l gone k0 es j n
    unfold keepE
    by_cases hj : j = ((k0 + n : Nat) : Int)
    · subst hj
      rw [if_neg (by omega)] at ih
      by_cases hc : lookE ((k0 + n : Nat) : Int) (keepE l gone k0 n es) = none ∧ gone.testBit (k0 + n) = false
      · rw [if_pos hc, look_upd, if_pos rfl, if_pos ⟨⟨ih ▸ hc.1, by omega, by omega⟩, by rw [Int.toNat_natCast]; exact hc.2⟩, Int.toNat_natCast]
      · rw [if_neg hc, ih, if_neg (fun h => hc ⟨ih.trans h.1.1, by have := h.2; rwa [Int.toNat_natCast] at this⟩)]
    · have e : ((lookE j es = none ∧ (k0 : Int) ≤ j ∧ j < k0 + (n + 1 : Nat)) ∧ gone.testBit j.toNat = false) ↔ ((lookE j es = none ∧ (k0 : Int) ≤ j ∧ j < k0 + n) ∧ gone.testBit j.toNat = false) := by
        constructor
        · rintro ⟨⟨a, b, c⟩, d⟩; exact ⟨⟨a, b, by omega⟩, d⟩
        · rintro ⟨⟨a, b, c⟩, d⟩; exact ⟨⟨a, b, by omega⟩, d⟩
      have hs : lookE j (if lookE ((k0 + n : Nat) : Int) (keepE l gone k0 n es) = none ∧ gone.testBit (k0 + n) = false then updE ((k0 + n : Nat) : Int) (.string (blkS l (k0 + n))) (keepE l gone k0 n es) else keepE l gone k0 n es) = lookE j (keepE l gone k0 n es) := by
        split
        · rw [look_upd, if_neg hj]
        · rfl
      rw [hs, ih]
      by_cases hc : (lookE j es = none ∧ (k0 : Int) ≤ j ∧ j < k0 + n) ∧ gone.testBit j.toNat = false
      · rw [if_pos hc, if_pos (e.2 hc)]
      · rw [if_neg hc, if_neg (fun h => hc (e.1 h))]
theorem keepE_keys (l : List UInt8) (gone k0 : Nat) (es : EL) (h : keysE es) : ∀ n, keysE (keepE l gone k0 n es)
  | 0 => h
  | n + 1 => by
    unfold keepE
    split
    · exact keysE_upd _ _ _ (keepE_keys l gone k0 es h n)
    · exact keepE_keys l gone k0 es h n
theorem still_bit (x k : Nat) (hk : k < 64) (hx : x < 18446744073709551616) : (Go.bits .and .u64 (((x : Nat) : Int) / 2 ^ k) 1 == 1) = x.testBit k := by
  rw [show (2 : Int) ^ k = ((2 ^ k : Nat) : Int) by simp, ← Int.natCast_ediv, show (1 : Int) = ((1 : Nat) : Int) from rfl, and_u64 (x / 2 ^ k) 1 (Nat.lt_of_le_of_lt (Nat.div_le_self _ _) hx) (by decide), Nat.and_one_is_mod, Nat.testBit_eq_decide_div_mod_eq]
  rcases Nat.mod_two_eq_zero_or_one (x / 2 ^ k) with h | h <;> rw [h] <;> rfl
set_option maxRecDepth 100000 in
theorem still_none (g gf m gone : Nat) (w : World) (h : StillAt w g gf m gone) :
    Calls Try.prog 19 #[.pointer (some ⟨g, 0, none⟩)] w fun e w' => e = .returned (.bool false) ∧ w' = w := by
  have c0 := h.cell (i := 0) rfl
  clear h
  go_enter Try.func19, Try.ntmps19
  go_wp2_with fail
  go_ret
  exact ⟨rfl, rfl⟩
set_option maxRecDepth 100000 in
theorem still_new (gf : Nat) (w : World) :
    Calls Try.prog 7 #[.pointer (some ⟨gf, 0, none⟩)] w fun e w' => ∃ g m, e = .returned (.tuple #[.pointer (some ⟨g, 0, none⟩), .int .i64 0]) ∧ w.heap.size ≤ g ∧ w.heap.size ≤ m ∧ StillAt w' g gf m 0 ∧ MapAt w' m [] ∧ Below w.heap.size w w' := by
  have hmm := @run_makeMap Try.prog
  go_enter Try.func7, Try.ntmps7
  go_wp2_with fail
  go_ret2
  refine ⟨w.heap.size + 1, w.heap.size, by simp, by omega, Nat.le_refl _, Blk.new2 w _ _ _, (MapAt.new w).alloc _, by repeat (first | exact Below.refl _ _ | apply below_alloc)⟩
set_option maxRecDepth 100000 in
set_option maxHeartbeats 800000 in
theorem still_away (g gf m gone k : Nat) (hg : gone < 18446744073709551616) (hk : k < 64) (w : World) (h : StillAt w g gf m gone) :
    Calls Try.prog 21 #[.pointer (some ⟨g, 0, none⟩), .int .i64 k] w fun e w' => e = .returned (.bool (gone.testBit k)) ∧ w' = w := by
  have c2 := h.cell (i := 2) rfl
  have hb := Aside0.mk (still_bit gone k hk hg)
  have hk' : (k : Int) < 64 := by omega
  clear h
  go_enter Try.func21, Try.ntmps21
  go_wp2_with fail
  rw [← hb.out]
  go_ret
  exact ⟨rfl, rfl⟩
theorem FilmAt.drew {w : World} {g q : Nat} {l : List UInt8} (h : FilmAt w g q l) : FilmAt w.drew g q l := h.move rfl rfl
theorem FilmAt.alloc {w : World} {g q : Nat} {l : List UInt8} (h : FilmAt w g q l) (o : Obj) : FilmAt (w.alloc o) g q l := h.move (Below.heap_alloc _ _ _ h.lt.1) (Below.heap_alloc _ _ _ h.lt.2)
/-- How many blocks so many bytes from one on touch. -/
def touchN (a n : Nat) : Nat := if n = 0 then 0 else (a + n - 1) / 8 + 1 - a / 8
def touchF (a n : Nat) : Nat := if n = 0 then 0 else a / 8
theorem touched_eq (a n : Nat) (h : a + n ≤ 512) : span_Blocks.f (a : Int) (n : Int) = some ((touchF a n : Int), (touchN a n : Int), decide (0 < n)) := by
  by_cases h0 : n = 0
  · subst h0
    rw [blocks_no (by omega) (by omega)]; rfl
  · rw [blocks_yes (by omega) (by omega) (by omega) (by omega)]
    unfold touchF touchN
    rw [if_neg h0, if_neg h0, decide_eq_true (by omega)]
    congr 2
    congr 1
    omega
theorem touched_le (a n b : Nat) (h : a + n ≤ 8 * b) : touchF a n + touchN a n ≤ b := by
  unfold touchF touchN
  split
  · omega
  · omega
theorem keepE_zero (l : List UInt8) (gone k0 k1 : Nat) (es : EL) : keepE l gone k0 0 es = keepE l gone k1 0 es := rfl
theorem keepE_touch (l : List UInt8) (gone a n : Nat) (es : EL) : keepE l gone (touchF a n) (touchN a n) es = keepE l gone (a / 8) (touchN a n) es := by
  unfold touchF touchN
  split
  · rfl
  · rfl
theorem film_block_b (g q : Nat) (l : List UInt8) (b k : Nat) (w : World) (hf : FilmAt w g q l) (hl : l.length = 8 * b) (hb : b ≤ 64) (h : k < b) :
    Calls Try.prog 16 #[.pointer (some ⟨g, 0, none⟩), .int .i64 k] w fun e w' => e = .returned (.tuple #[.string (blkS l k), .int .i64 0]) ∧ Below w.heap.size w w' :=
  (film_block g q l b k w hf hl hb h).mono fun e w' ⟨h1, h2⟩ => ⟨h1, h2 ▸ Below.refl _ _⟩
theorem zero_s (w : World) : (zeroValue 9).run Try.prog w = .ok (.string ⟨#[]⟩) w := by kernel_rfl
set_option maxRecDepth 100000 in
set_option maxHeartbeats 1600000 in
theorem still_write (g gf q m : Nat) (l : List UInt8) (b a : Nat) (es : EL) (gone : Nat) (s : ByteArray) (w : World) (hS : StillAt w g gf m gone) (hF : FilmAt w gf q l) (hM : MapAt w m es)
    (hl : l.length = 8 * b) (hb : b ≤ 64) (hg : gone < 18446744073709551616) (h : a + s.size ≤ l.length) :
    Calls Try.prog 8 #[.pointer (some ⟨g, 0, none⟩), .int .i64 a, .string s] w fun e w' => e = .returned (.int .i64 0) ∧ FilmAt w' gf q (spl l a s.data.toList) ∧ MapAt w' m (keepE l gone (a / 8) (touchN a s.size) es) ∧ Chg w w' [q, m] := by
  have HS := Aside0.mk hS
  have HF := Aside0.mk hF
  have HM := Aside0.mk hM
  have c0 := hS.cell (i := 0) rfl
  have N1 : Aside0 (g ≠ q) := ⟨(hF.ne_blk hS (by decide) (by decide)).2.symm⟩
  have N2 : Aside0 (g ≠ m) := ⟨hS.ne_map hM⟩
  have N3 : Aside0 (gf ≠ m ∧ q ≠ m) := ⟨hF.ne_map hM⟩
  have hT := Aside0.mk (touched_eq a s.size (by omega))
  have hTl := Aside0.mk (touched_le a s.size b (by omega))
  have hK := Aside0.mk (keepE_touch l gone a s.size es)
  rw [← hK.out]
  clear hK
  generalize touchF a s.size = F at *
  generalize touchN a s.size = N at *
  have hsz := Aside0.mk h
  have hl' := Aside0.mk hl
  have hb' := Aside0.mk hb
  have hg' := Aside0.mk hg
  generalize decide (0 < s.size) = is at *
  clear hS hF hM h hl hb hg
  go_enter Try.func8, Try.ntmps8
  go_wp2_with fail
  refine (still_none g gf m gone _ HS.out).mono ?_
  rintro e w1 ⟨rfl, rfl⟩
  go_wp2_with fail
  refine (film_copy gf q l _ HF.out).mono ?_
  rintro e w2 ⟨g', q', rfl, hg1, hq1, hf, hB⟩
  have N4 : Aside0 (g' ≠ q ∧ q' ≠ q ∧ g' ≠ m ∧ q' ≠ m) := ⟨by have := HF.out.lt; have := HM.out.lt; omega⟩
  have HS2 := Aside0.mk (HS.out.keep hB)
  have HF2 := Aside0.mk (HF.out.keep hB)
  have HM2 := Aside0.mk (HM.out.keep hB)
  have HC2 := Aside0.mk (Chg.of hB [q, m])
  have HX2 := Aside0.mk hf
  have c0 := HS2.out.cell (i := 0) rfl
  clear hB hf hg1 hq1 HS HF HM
  go_wp2_with fail
  refine (film_write gf q l a s _ HF2.out (by have := hl'.out; have := hb'.out; omega) hsz.out).mono ?_
  rintro e w3 ⟨rfl, hf, ho⟩
  have HS3 := Aside0.mk (HS2.out.only ho N1.out)
  have HM3 := Aside0.mk (HM2.out.only ho N3.out.2.symm)
  have HX3 := Aside0.mk (HX2.out.only ho N4.out.1 N4.out.2.1)
  have HC3 := Aside0.mk (HC2.out.only ho (.inl (by simp)))
  have HF3 := Aside0.mk hf
  have c0 := HS3.out.cell (i := 0) rfl
  clear ho hf HS2 HF2 HM2 HC2 HX2
  go_wp2_with fail
  refine (span_Blocks.calls (a : Int) (s.size : Int) (F : Int) (N : Int) is _ hT.out).mono ?_
  rintro e w4 ⟨rfl, hB⟩
  have HS4 := Aside0.mk (HS3.out.keep hB)
  have HF4 := Aside0.mk (HF3.out.keep hB)
  have HM4 := Aside0.mk (HM3.out.keep hB)
  have HC4 := Aside0.mk (HC3.out.below hB)
  have HX4 := Aside0.mk (HX3.out.keep hB)
  clear hB HS3 HF3 HM3 HC3 HX3 c0
  go_wp2_with fail
  have hgs : Aside0 (w1.heap.size ≤ w4.heap.size ∧ q < w4.heap.size ∧ m < w4.heap.size ∧ g < w4.heap.size) := ⟨HC4.out.size, HF4.out.lt.2, HM4.out.lt, HS4.out.lt⟩
  go_loopg [11] N (fun kq v wq => ∃ k : Nat, k + kq = N ∧ v = .int .i64 ((F + k : Nat) : Int) ∧ Aside0 (Chg w1 wq [q, m]) ∧ Aside0 (FilmAt wq gf q (spl l a s.data.toList)) ∧ Aside0 (FilmAt wq g' q' l) ∧ Aside0 (MapAt wq m (keepE l gone F k es)) ∧ Aside0 (StillAt wq g gf m gone) ∧ Aside0 (Blk wq w4.heap.size 45 #[.int .i64 (F : Int), .int .i64 (N : Int)]))
  case atStart => exact ⟨0, by omega, rfl, ⟨HC4.out.alloc _⟩, ⟨HF4.out.alloc _⟩, ⟨HX4.out.alloc _⟩, ⟨HM4.out.alloc _⟩, ⟨HS4.out.alloc _⟩, ⟨Blk.new _ _ _⟩⟩
  case round =>
    obtain ⟨k, hk, rfl, HC, HF, HX, HM, HS, HG⟩ := hrel
    have d0 := HG.out.cell (i := 0) rfl
    have d1 := HG.out.cell (i := 1) rfl
    have hFN : ((F : Int) + (N : Int)) ≤ 64 := by have := hTl.out; have := hb'.out; omega
    obtain ⟨n, hn⟩ : ∃ n, n = F + k := ⟨_, rfl⟩
    by_cases hlt : k < N
    · obtain ⟨kk, rfl⟩ : ∃ z, gk = z + 1 := ⟨gk - 1, by omega⟩
      have hlt' : (n : Int) < (F : Int) + (N : Int) := by omega
      have hn0 : (0 : Int) ≤ (n : Int) := by omega
      have hnb : n < b := by have := hTl.out; omega
      have hone : Aside0 (keepE l gone F (k + 1) es = if lookE ((n : Nat) : Int) (keepE l gone F k es) = none ∧ gone.testBit n = false then updE ((n : Nat) : Int) (.string (blkS l n)) (keepE l gone F k es) else keepE l gone F k es) := ⟨by subst hn; rfl⟩
      have hnext : Aside0 (F + (k + 1) = n + 1) := ⟨by omega⟩
      rw [← hn]
      replace hn := Aside0.mk hn
      have c1 := HS.out.cell (i := 1) rfl
      generalize keepE l gone F k es = ES at *
      have hlk := HM.out.lookup (P := Try.prog) (T := 53) Try.underlying53 Try.underlying3 (zero_s wr) (n : Int) true
      cases hq : lookE (n : Int) ES with
      | some v =>
        rw [hq] at hlk hone
        rw [if_neg (by rintro ⟨h, _⟩; cases h)] at hone
        simp only [if_true, Option.getD_some, Option.isSome_some] at hlk
        clear hq
        go_wp2_with fail
        go_roundg kk
        case measure => omega
        case rel => exact ⟨k + 1, by omega, by rw [hnext.out]; go_num, HC, HF, HX, ⟨by rw [hone.out]; exact HM.out⟩, HS, HG⟩
      | none =>
        rw [hq] at hlk hone
        simp only [if_true, Option.getD_none, Option.isSome_none] at hlk
        clear hq
        go_wp2_with fail
        refine (still_away g gf m gone n hg'.out (by have := hb'.out; omega) _ HS.out).mono ?_
        rintro e w5 ⟨rfl, rfl⟩
        cases hbit : gone.testBit n with
        | true =>
          rw [hbit, if_neg (by rintro ⟨_, h⟩; cases h)] at hone
          clear hbit
          go_wp2_with fail
          go_roundg kk
          case measure => omega
          case rel => exact ⟨k + 1, by omega, by rw [hnext.out]; go_num, HC, HF, HX, ⟨by rw [hone.out]; exact HM.out⟩, HS, HG⟩
        | false =>
          rw [hbit, if_pos (by simp)] at hone
          clear hbit
          have hnb := Aside0.mk hnb
          go_wp2_with fail
          refine start_ (n := 12) (S := fun w' => w'.cell? ⟨g, 1, none⟩ = some (.map (some m)) ∧ Chg w1 w' [q, m] ∧ FilmAt w' gf q (spl l a s.data.toList) ∧ FilmAt w' g' q' l ∧ MapAt w' m ES ∧ StillAt w' g gf m gone ∧ Blk w' w4.heap.size 45 #[.int .i64 (F : Int), .int .i64 (N : Int)]) (ds := [11]) #[false, false, false, false, false, false, false, false, false, false, false, false] (by kernel_rfl) rfl rfl ⟨c1, (HC.out.drew), (HF.out.drew), (HX.out.drew), (HM.out.drew), (HS.out.drew), (HG.out.drew)⟩ (fun hHeld => ?_)
          refine pure_ (i := 0) (N := some 67) (v := ?_) (a' := ?_) #[true, false, false, false, false, false, false, false, false, false, false, false] rfl rfl (by kernel_rfl) (fun _ _ _ h => h) (Or.inl ⟨by rfl, ?_⟩) ?_ ?_
          rotate_left
          · intro w'
            go_simp
            with_reducible rfl
          rotate_left
          · simp only [Act.put, List.setIfInBounds_toArray, List.set_cons_zero, List.set_cons_succ, i64_w, i32_w]
            rfl
          refine pure_ (i := 1) (N := some 68) (v := ?_) (a' := ?_) #[true, true, false, false, false, false, false, false, false, false, false, false] rfl rfl (by kernel_rfl) (fun _ _ _ h => h) (Or.inl ⟨by rfl, ?_⟩) ?_ ?_
          rotate_left
          · intro w'
            go_simp
            with_reducible rfl
          rotate_left
          · simp only [Act.put, List.setIfInBounds_toArray, List.set_cons_zero, List.set_cons_succ, i64_w, i32_w]
            rfl
          refine pure_ (i := 2) (N := some 69) (v := ?_) (a' := ?_) #[true, true, true, false, false, false, false, false, false, false, false, false] rfl rfl (by kernel_rfl) (fun _ _ _ h => h) (Or.inl ⟨by rfl, ?_⟩) ?_ ?_
          rotate_left
          · intro w'
            go_simp
            with_reducible rfl
          rotate_left
          · simp only [Act.put, List.setIfInBounds_toArray, List.set_cons_zero, List.set_cons_succ, i64_w, i32_w]
            rfl
          refine pure_ (i := 4) (N := some 71) (v := ?_) (a' := ?_) #[true, true, true, false, true, false, false, false, false, false, false, false] rfl rfl (by kernel_rfl) (fun _ _ _ h => h) (Or.inl ⟨by rfl, ?_⟩) ?_ ?_
          rotate_left
          · intro w'
            go_simp
            with_reducible rfl
          rotate_left
          · simp only [Act.put, List.setIfInBounds_toArray, List.set_cons_zero, List.set_cons_succ, i64_w, i32_w]
            rfl
          refine pure_ (i := 5) (N := some 72) (v := ?_) (a' := ?_) #[true, true, true, false, true, true, false, false, false, false, false, false] rfl rfl (by kernel_rfl) (fun _ _ _ h => h) (Or.inl ⟨by rfl, ?_⟩) ?_ ?_
          rotate_left
          · intro w'
            go_simp
            with_reducible rfl
          rotate_left
          · simp only [Act.put, List.setIfInBounds_toArray, List.set_cons_zero, List.set_cons_succ, i64_w, i32_w]
            rfl
          refine pure_ (i := 6) (N := some 73) (v := ?_) (a' := ?_) #[true, true, true, false, true, true, true, false, false, false, false, false] rfl rfl (by kernel_rfl) (fun _ _ _ h => h) (Or.inl ⟨by rfl, ?_⟩) ?_ ?_
          rotate_left
          · intro w'
            go_simp
            with_reducible rfl
          rotate_left
          · simp only [Act.put, List.setIfInBounds_toArray, List.set_cons_zero, List.set_cons_succ, i64_w, i32_w]
            rfl
          refine take_ (i := 3) (N := some 70) (v := ?_) (a' := ?_) #[true, true, true, true, true, true, true, false, false, false, false, false] rfl rfl (by kernel_rfl) (fun _ _ _ h => h) (Or.inl ⟨by rfl, ?_⟩) hHeld ?_ ?_
          rotate_left
          · rintro w' ⟨s0, s1, s2, s3, s4, s5, s6⟩
            go_simp
            with_reducible rfl
          rotate_left
          · simp only [Act.put, List.setIfInBounds_toArray, List.set_cons_zero, List.set_cons_succ, i64_w, i32_w]
            rfl
          refine one_ (i := 7) (N := some 74) #[true, true, true, true, true, true, true, true, false, false, false, false] rfl rfl (by kernel_rfl) (by decide) (fun K hK => ?_)
          refine goes_ Try.func16 (by kernel_rfl) rfl #[.pointer (some ⟨g', 0, none⟩), .int .i64 n] (by rfl) rfl rfl (by simp only [List.map_toArray, List.map_cons, List.map_nil]; rfl) ?_
          with_reducible refine (film_block_b g' q' l b n _ hHeld.2.2.2.1 hl'.out hb'.out hnb.out).mono ?_
          rintro e w6 ⟨rfl, hb⟩
          refine ⟨_, rfl, ?_⟩
          refine hK.out _ _ ⟨(keepP hb hHeld.1), (Chg.below hHeld.2.1 hb), ((hHeld.2.2.1).keep hb), ((hHeld.2.2.2.1).keep hb), ((hHeld.2.2.2.2.1).keep hb), ((hHeld.2.2.2.2.2.1).keep hb), ((hHeld.2.2.2.2.2.2).keep hb)⟩ (fun hHeld => ?_)
          clear hK K
          refine norm_ (a' := ?_) ?_ ?_
          rotate_left
          · show Act.put _ (some 74) _ = _
            simp only [Act.put, List.setIfInBounds_toArray, List.set_cons_zero, List.set_cons_succ, i64_w, i32_w]
            rfl
          refine pure_ (i := 8) (N := some 66) (v := ?_) (a' := ?_) #[true, true, true, true, true, true, true, true, true, false, false, false] rfl rfl (by kernel_rfl) (fun _ _ _ h => h) (Or.inl ⟨by rfl, ?_⟩) ?_ ?_
          rotate_left
          · intro w'
            go_simp
            with_reducible rfl
          rotate_left
          · simp only [Act.put, List.setIfInBounds_toArray, List.set_cons_zero, List.set_cons_succ, i64_w, i32_w]
            rfl
          refine pure_ (i := 9) (N := some 75) (v := ?_) (a' := ?_) #[true, true, true, true, true, true, true, true, true, true, false, false] rfl rfl (by kernel_rfl) (fun _ _ _ h => h) (Or.inl ⟨by rfl, ?_⟩) ?_ ?_
          rotate_left
          · intro w'
            go_simp
            with_reducible rfl
          rotate_left
          · simp only [Act.put, List.setIfInBounds_toArray, List.set_cons_zero, List.set_cons_succ, i64_w, i32_w]
            rfl
          refine pure_ (i := 10) (N := some 76) (v := ?_) (a' := ?_) #[true, true, true, true, true, true, true, true, true, true, true, false] rfl rfl (by kernel_rfl) (fun _ _ _ h => h) (Or.inl ⟨by rfl, ?_⟩) ?_ ?_
          rotate_left
          · intro w'
            go_simp
            with_reducible rfl
          rotate_left
          · simp only [Act.put, List.setIfInBounds_toArray, List.set_cons_zero, List.set_cons_succ, i64_w, i32_w]
            rfl
          refine last_ (i := 11) (N := none) #[true, true, true, true, true, true, true, true, true, true, true, true] rfl rfl (by kernel_rfl) (by decide) (fun K hK => ?_)
          rw [if_pos (by rfl)]
          refine step_mapUpdate_i (.tmp 70) (.tmp 71) (.tmp 75) 53 3 9 (by rfl) Try.underlying53 Try.underlying3 m ES (by rfl) hHeld.2.2.2.2.1 (n : Int) (.string (blkS l n)) (by rfl) (by rfl) ?_
          intro w7 hM7 hO7
          refine hK.out _ _ ?_
          clear hK K
          refine done_ (by kernel_rfl) ?_
          have HC7 := Aside0.mk (hHeld.2.1.only hO7 (.inl (by simp)))
          have HF7 := Aside0.mk (hHeld.2.2.1.only hO7 N3.out.1 N3.out.2)
          have HX7 := Aside0.mk (hHeld.2.2.2.1.only hO7 N4.out.2.2.1 N4.out.2.2.2)
          have HS7 := Aside0.mk (hHeld.2.2.2.2.2.1.only hO7 N2.out)
          have HG7 := Aside0.mk (hHeld.2.2.2.2.2.2.only hO7 (by have := hgs.out; omega))
          have HM7 := Aside0.mk hM7
          clear hHeld hM7 hO7
          go_wp2_with fail
          go_roundg kk
          case measure => omega
          case rel => exact ⟨k + 1, by omega, by rw [hnext.out]; go_num, HC7, HF7, HX7, ⟨by rw [hone.out]; exact HM7.out⟩, HS7, HG7⟩
    · obtain rfl : k = N := by omega
      have hlt' : ¬ (n : Int) < (F : Int) + (k : Int) := by omega
      rw [← hn]
      replace hn := Aside0.mk hn
      go_wp2_with fail
      go_ret
      exact ⟨rfl, HF.out, HM.out, HC.out⟩
set_option maxRecDepth 100000 in
set_option maxHeartbeats 800000 in
theorem still_block (g gf q m : Nat) (l : List UInt8) (b k : Nat) (es : EL) (gone : Nat) (w : World) (hS : StillAt w g gf m gone) (hF : FilmAt w gf q l) (hM : MapAt w m es)
    (hl : l.length = 8 * b) (hb : b ≤ 64) (h : k < b) (R : ByteArray) (hR : (lookE (k : Int) es).getD (.string (blkS l k)) = .string R) :
    Calls Try.prog 10 #[.pointer (some ⟨g, 0, none⟩), .int .i64 k] w fun e w' => e = .returned (.tuple #[.string R, .int .i64 0]) ∧ w' = w := by
  have HS := Aside0.mk hS
  have HF := Aside0.mk hF
  have c0 := hS.cell (i := 0) rfl
  have c1 := hS.cell (i := 1) rfl
  have hlk := hM.lookup (P := Try.prog) (T := 53) Try.underlying53 Try.underlying3 (zero_s w) (k : Int) true
  have hl' := Aside0.mk hl
  have hb' := Aside0.mk hb
  have h' := Aside0.mk h
  cases hq : lookE (k : Int) es with
  | some v =>
    rw [hq] at hlk hR
    simp only [Option.getD_some] at hR
    subst hR
    simp only [if_true, Option.getD_some, Option.isSome_some] at hlk
    clear hq hS hF hM hl hb h
    go_enter Try.func10, Try.ntmps10
    go_wp2_with fail
    refine (still_none g gf m gone _ HS.out).mono ?_
    rintro e w1 ⟨rfl, rfl⟩
    go_wp2_with fail
    go_ret2
    exact ⟨rfl, rfl⟩
  | none =>
    rw [hq] at hlk hR
    simp only [Option.getD_none] at hR
    injection hR with hR
    subst hR
    simp only [if_true, Option.getD_none, Option.isSome_none] at hlk
    clear hq hS hF hM hl hb h
    generalize hR : blkS l k = R' at *
    have hfb : Aside0 (Calls Try.prog 16 #[.pointer (some ⟨gf, 0, none⟩), .int .i64 k] w fun e w' => e = .returned (.tuple #[.string R', .int .i64 0]) ∧ w' = w) := ⟨hR ▸ film_block gf q l b k w HF.out hl'.out hb'.out h'.out⟩
    clear hR
    go_enter Try.func10, Try.ntmps10
    go_wp2_with fail
    refine (still_none g gf m gone _ HS.out).mono ?_
    rintro e w1 ⟨rfl, rfl⟩
    go_wp2_with fail
    refine hfb.out.mono ?_
    rintro e w2 ⟨rfl, rfl⟩
    go_wp2_with fail
    go_ret2
    exact ⟨rfl, rfl⟩
set_option maxRecDepth 100000 in
theorem still_now (g gf m gone : Nat) (w : World) (hS : StillAt w g gf m gone) :
    Calls Try.prog 11 #[.pointer (some ⟨g, 0, none⟩)] w fun e w' => e = .returned (.pointer (some ⟨gf, 0, none⟩)) ∧ w' = w := by
  have HS := Aside0.mk hS
  have c0 := hS.cell (i := 0) rfl
  clear hS
  go_enter Try.func11, Try.ntmps11
  go_wp2_with fail
  refine (still_none g gf m gone _ HS.out).mono ?_
  rintro e w1 ⟨rfl, rfl⟩
  go_wp2_with fail
  go_ret
  exact ⟨rfl, rfl⟩
set_option maxRecDepth 100000 in
set_option maxHeartbeats 800000 in
theorem still_there (g gf q m : Nat) (l : List UInt8) (b k : Nat) (gone : Nat) (w : World) (hS : StillAt w g gf m gone) (hF : FilmAt w gf q l) (hl : l.length = 8 * b) (h : k < b) :
    Calls Try.prog 28 #[.pointer (some ⟨g, 0, none⟩), .int .i64 k] w fun e w' => e = .returned (.bool true) ∧ w' = w := by
  have HS := Aside0.mk hS
  have HF := Aside0.mk hF
  have hl' := Aside0.mk hl
  have c0 := hS.cell (i := 0) rfl
  have hk : (k : Int) < (b : Int) := by omega
  have hd : decide ((k : Int) < (b : Int)) = true := decide_eq_true hk
  clear hS hF hl h
  go_enter Try.func28, Try.ntmps28
  go_wp2_with fail
  refine (still_none g gf m gone _ HS.out).mono ?_
  rintro e w1 ⟨rfl, rfl⟩
  go_wp2_with fail
  refine (film_blocks gf q l b _ HF.out hl'.out).mono ?_
  rintro e w2 ⟨rfl, rfl⟩
  go_wp2_with fail
  go_ret
  exact ⟨rfl, rfl⟩
/-- The blocks that are kept, of the first so many. -/
def keptL (es : EL) : Nat → List Int
  | 0 => []
  | n + 1 => if (lookE (n : Int) es).isSome then keptL es n ++ [(n : Int)] else keptL es n
theorem keptL_length (es : EL) : ∀ n, (keptL es n).length ≤ n
  | 0 => Nat.le_refl _
  | n + 1 => by
    have := keptL_length es n
    unfold keptL
    split
    · rw [List.length_append, List.length_singleton]; omega
    · omega
theorem infoI' : (Try.prog.info? 3).map (fun i => (i.zero, i.size, i.bytes)) = some (some (.int .i64 0), 1, 8) := by kernel_rfl
set_option maxRecDepth 100000 in
set_option maxHeartbeats 800000 in
theorem still_kept (g gf q m : Nat) (l : List UInt8) (b : Nat) (es : EL) (gone : Nat) (w : World) (hS : StillAt w g gf m gone) (hF : FilmAt w gf q l) (hM : MapAt w m es)
    (hl : l.length = 8 * b) (hb : b ≤ 64) :
    Calls Try.prog 15 #[.pointer (some ⟨g, 0, none⟩)] w fun e w' => ∃ v, e = .returned v ∧ (Kd.int .i64).R 3 w' w.heap.size (fun _ => True) v (keptL es b) ∧ Below w.heap.size w w' := by
  have HS := Aside0.mk hS
  have HF := Aside0.mk hF
  have HM := Aside0.mk hM
  have c0 := hS.cell (i := 0) rfl
  have hl' := Aside0.mk hl
  have hb' := Aside0.mk hb
  clear hS hF hM hl hb
  go_enter Try.func15, Try.ntmps15
  go_wp2_with fail
  refine (still_none g gf m gone _ HS.out).mono ?_
  rintro e w1 ⟨rfl, rfl⟩
  go_wp2_with fail
  refine (film_blocks gf q l b _ HF.out hl'.out).mono ?_
  rintro e w2 ⟨rfl, rfl⟩
  go_wp2_with fail
  go_loopg [3, 14] b (fun kq u v wq => ∃ k : Nat, k + kq = b ∧ v = .int .i64 (k : Int) ∧ Aside0 (Below w2.heap.size w2 wq) ∧ Aside0 ((Kd.int .i64).R 3 wq w2.heap.size (fun _ => True) u (keptL es k)))
  case atStart => exact ⟨0, by omega, rfl, ⟨Below.refl _ _⟩, ⟨Kd.R_nil _ _ _ _ _⟩⟩
  case round =>
    obtain ⟨k, hk, rfl, HB, HR⟩ := hrel
    by_cases hlt : k < b
    · obtain ⟨kk, rfl⟩ : ∃ z, gk = z + 1 := ⟨gk - 1, by omega⟩
      have hlt' : (k : Int) < (b : Int) := by omega
      have hk64 : (k : Int) ≤ 64 := by have := hb'.out; omega
      have hlen := Aside0.mk (keptL_length es k)
      have hone : Aside0 (keptL es (k + 1) = if (lookE (k : Int) es).isSome then keptL es k ++ [(k : Int)] else keptL es k) := ⟨rfl⟩
      have c1 := (HS.out.keep HB.out).cell (i := 1) rfl
      have hlk := (HM.out.keep HB.out).lookup (P := Try.prog) (T := 53) Try.underlying53 Try.underlying3 (zero_s wr) (k : Int) true
      obtain ⟨A0, n0, rfl, hc0, _⟩ := Kd.R_reads HR.out
      have hlt := Aside0.mk hlt
      cases hq : lookE (k : Int) es with
      | some v =>
        rw [hq] at hlk hone
        simp only [if_true, Option.getD_some, Option.isSome_some] at hlk hone
        clear hq
        go_wp2_with (at_builtin; refine Kd.R_append (Kd.int .i64) (w0 := w2) w2.heap.size rfl (.tmp 27) (.tmp 29) 42 3 (.int .i64 0) 8 rfl Try.underlying42 infoI' rfl (by decide) (by omega) (.slice A0 (keptL es k).length n0) (keptL es k) (k : Int) [.int .i64 (k : Int)] (fun _ => True) (fun _ => False) rfl rfl rfl (fun _ hk => hk.elim) (fun _ _ => trivial) HR.out HB.out HB.out.size (by have := hlen.out; have := hlt.out; have := hb'.out; omega) ?_; intro v9 w9 hr9 hb9 hg9 hat9)
        have HR9 := Aside0.mk hr9
        have HB9 := Aside0.mk hb9
        clear hr9 hb9 hg9 hat9
        go_roundg kk
        case measure => omega
        case rel => exact ⟨k + 1, by omega, by go_num, HB9, ⟨by rw [hone.out]; exact HR9.out⟩⟩
      | none =>
        rw [hq] at hlk hone
        simp only [if_true, Option.getD_none, Option.isSome_none] at hlk hone
        clear hq
        go_wp2_with fail
        go_roundg kk
        case measure => omega
        case rel => exact ⟨k + 1, by omega, by go_num, HB, ⟨by rw [hone.out]; exact HR.out⟩⟩
    · obtain rfl : k = b := by omega
      have hlt' : ¬ (k : Int) < (k : Int) := by omega
      obtain ⟨A0, n0, rfl, hc0, _⟩ := Kd.R_reads HR.out
      go_wp2_with fail
      go_ret
      exact ⟨_, rfl, HR.out, HB.out⟩
/-- What is let go. -/
theorem or_bit (gone k : Nat) (hg : gone < 18446744073709551616) (hk : k < 64) : Go.bits .or .u64 (gone : Int) (IntKind.u64.wrap (2 ^ k)) = ((gone ||| 2 ^ k : Nat) : Int) := by
  have hp : 2 ^ k < 18446744073709551616 := by have : 2 ^ k < 2 ^ 64 := Nat.pow_lt_pow_right (by decide) hk; simpa using this
  have e2 : (2 : Int) ^ k = ((2 ^ k : Nat) : Int) := by simp
  generalize 2 ^ k = P at *
  rw [wrap_u64, e2, Int.emod_eq_of_lt (by omega) (by omega)]
  exact or_u64 gone P hg hp
set_option maxRecDepth 100000 in
set_option maxHeartbeats 800000 in
theorem still_let (g gf q m : Nat) (l : List UInt8) (b k : Nat) (es : EL) (gone : Nat) (w : World) (hS : StillAt w g gf m gone) (hF : FilmAt w gf q l) (hM : MapAt w m es)
    (hl : l.length = 8 * b) (hb : b ≤ 64) (hg : gone < 18446744073709551616) (h : k < b) (hbit : gone.testBit k = false) :
    Calls Try.prog 17 #[.pointer (some ⟨g, 0, none⟩), .int .i64 k] w fun e w' => e = .returned (.bool true) ∧ StillAt w' g gf m (gone ||| 2 ^ k) ∧ MapAt w' m (delE (k : Int) es) ∧ Chg w w' [g, m] := by
  have HS := Aside0.mk hS
  have HM := Aside0.mk hM
  have N2 : Aside0 (g ≠ m) := ⟨hS.ne_map hM⟩
  have c0 := hS.cell (i := 0) rfl
  have c1 := hS.cell (i := 1) rfl
  have hth := Aside0.mk (still_there g gf q m l b k gone w hS hF hl h)
  have haw := Aside0.mk (still_away g gf m gone k hg (by omega) w hS)
  rw [hbit] at haw
  have hor := Aside0.mk (or_bit gone k hg (by omega))
  have hk' : (k : Int) < 64 := by omega
  clear hS hF hM hl hb hg h hbit
  go_enter Try.func17, Try.ntmps17
  go_wp2_with fail
  refine hth.out.mono ?_
  rintro e w1 ⟨rfl, rfl⟩
  go_wp2_with fail
  refine haw.out.mono ?_
  rintro e w2 ⟨rfl, rfl⟩
  go_wp2_with (with_reducible refine wpList_delete_i rfl (.tmp 17) (.tmp 18) 53 3 3 9 rfl Try.underlying53 Try.underlying3 m es rfl HM.out (k : Int) rfl ?_; intro w3 hM3 hO3; have HS3 := Aside0.mk (HS.out.only hO3 N2.out); have HM3 := Aside0.mk hM3; have HC3 := Aside0.mk ((Chg.refl w2 [g, m]).only hO3 (.inl (by simp))); have d2 := HS3.out.cell (i := 2) rfl; have f2 := HS3.out.frozen 2; clear hM3 hO3 c0 c1 HM HS hth haw)
  rw [hor.out]
  go_ret
  refine ⟨rfl, ?_, HM3.out.far (fun e => N2.out e.symm) _, HC3.out.only (only_set (only_refl _ _) 2 _) (.inl (by simp))⟩
  have h := HS3.out.set_ 2 (.int .u64 ((gone ||| 2 ^ k : Nat) : Int))
  exact h
end Go.Proofs.Ytknphhcppllpoaa.Hand
