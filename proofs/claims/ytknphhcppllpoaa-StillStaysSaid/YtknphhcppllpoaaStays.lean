/- A volume that is frozen, over many writes: what it keeps. -/
import Derived.Test.YtknphhcppllpoaaStillL
import Derived.Test.YtknphhcppllpoaaUnl
import Derived.Test.YtknphhcppllpoaaSt5
namespace Go.Proofs.Ytknphhcppllpoaa.Hand
open Go.RowKit Go.Proofs.YtknphhcppllpoaaW.PrintWords Go.Proofs.YtknphhcppllpoaaW.PrintLast Go.Proofs.YtknphhcppllpoaaW.PrintMore Go.Proofs.Ytknphhcppllpoaa.A Go.Proofs.Ytknphhcppllpoaa.Bits
set_option linter.unusedVariables false
set_option linter.unusedSimpArgs false
attribute [local go_sem] max2_int min2_int max_two min_two max_three min_three max_four min_four
def wrV (l : List UInt8) (n : Int) (s : ByteArray) : List UInt8 := if mayB l.length n s.size then spl l n.toNat s.data.toList else l
def keV (l : List UInt8) (n : Int) (s : ByteArray) (es : EL) : EL := if mayB l.length n s.size then keepE l 0 (n.toNat / 8) (touchN n.toNat s.size) es else es
theorem dlen (s : ByteArray) : s.data.toList.length = s.size := by rw [Array.length_toList]; rfl
theorem wrV_length (l : List UInt8) (n : Int) (s : ByteArray) : (wrV l n s).length = l.length := by
  unfold wrV
  split
  · rename_i h
    obtain ⟨h1, h2, h3, h4⟩ := h
    exact spl_length _ _ _ (by rw [dlen]; omega)
  · rfl
/-- What is kept of what was. -/
def KeptOf (l1 l : List UInt8) (B : Nat) (es : EL) : Prop := l.length = 8 * B ∧ keysE es ∧ (∀ j, lookE j es ≠ none → 0 ≤ j ∧ j < B) ∧ ∀ k : Nat, k < B → (lookE (k : Int) es = some (.string (blkS l1 k)) ∨ (lookE (k : Int) es = none ∧ blkS l k = blkS l1 k))
theorem KeptOf.start (l : List UInt8) (B : Nat) (h : l.length = 8 * B) : KeptOf l l B [] := ⟨h, trivial, fun j hj => absurd rfl hj, fun k hk => .inr ⟨rfl, rfl⟩⟩
theorem KeptOf.step {l1 l : List UInt8} {B : Nat} {es : EL} (h : KeptOf l1 l B es) (n : Int) (s : ByteArray) : KeptOf l1 (wrV l n s) B (keV l n s es) := by
  obtain ⟨h1, h2, h3, h4⟩ := h
  refine ⟨(wrV_length _ _ _).trans h1, ?_⟩
  unfold wrV keV
  by_cases hm : mayB l.length n s.size
  · rw [if_pos hm, if_pos hm]
    obtain ⟨m1, m2, m3, m4⟩ := hm
    obtain ⟨a, rfl⟩ := Int.eq_ofNat_of_zero_le m1
    rw [Int.toNat_natCast]
    have hfit : a + s.data.toList.length ≤ l.length := by rw [dlen]; omega
    have ht := touched_le a s.size B (by omega)
    have hF := keepE_touch l 0 a s.size es
    have hz : ∀ j, Nat.testBit 0 j = false := fun j => by simp
    have hlt : (touchN a s.size : Int) = 0 ∨ ((a / 8 : Nat) : Int) + (touchN a s.size : Nat) ≤ B := by
      unfold touchF at ht
      by_cases h0 : s.size = 0
      · left; unfold touchN; rw [if_pos h0]; rfl
      · rw [if_neg h0] at ht; right; omega
    refine ⟨keepE_keys _ _ _ _ h2 _, fun j hj => ?_, fun k hk => ?_⟩
    · rw [keepE_look] at hj
      by_cases hc : (lookE j es = none ∧ ((a / 8 : Nat) : Int) ≤ j ∧ j < ((a / 8 : Nat) : Int) + (touchN a s.size : Nat)) ∧ Nat.testBit 0 j.toNat = false
      · exact ⟨by omega, by omega⟩
      · rw [if_neg hc] at hj; exact h3 j hj
    · rw [keepE_look]
      rcases h4 k hk with h | ⟨h, he⟩
      · left
        rw [if_neg (fun hc => by rw [h] at hc; cases hc.1.1)]
        exact h
      · by_cases hc : ((a / 8 : Nat) : Int) ≤ (k : Int) ∧ (k : Int) < ((a / 8 : Nat) : Int) + (touchN a s.size : Nat)
        · left
          rw [if_pos ⟨⟨h, hc.1, hc.2⟩, hz _⟩, Int.toNat_natCast, he]
        · right
          rw [if_neg (fun h2 => hc h2.1.2)]
          refine ⟨h, ?_⟩
          rw [← he]
          by_cases h0 : s.size = 0
          · have : s.data.toList = [] := List.eq_nil_of_length_eq_zero (by rw [dlen]; exact h0)
            rw [this]
            have : spl l a [] = l := by unfold spl; simp
            rw [this]
          · refine blkS_spl l a _ k hfit ?_
            rw [dlen]
            unfold touchN at hc
            rw [if_neg h0] at hc
            omega
  · rw [if_neg hm, if_neg hm]
    exact ⟨h2, h3, h4⟩
theorem keptL_mem (es : EL) (j : Int) : ∀ n, j ∈ keptL es n ↔ 0 ≤ j ∧ j < n ∧ lookE j es ≠ none
  | 0 => by unfold keptL; simp; omega
  | n + 1 => by
    have ih := keptL_mem es j n
    unfold keptL
    by_cases hs : (lookE (n : Int) es).isSome = true
    · rw [if_pos hs, List.mem_append, ih, List.mem_singleton]
      constructor
      · rintro (h | rfl)
        · exact ⟨h.1, by omega, h.2.2⟩
        · exact ⟨by omega, by omega, fun h => by rw [h] at hs; cases hs⟩
      · intro h
        by_cases he : j = (n : Int)
        · exact .inr he
        · exact .inl ⟨h.1, by omega, h.2.2⟩
    · rw [if_neg hs, ih]
      constructor
      · intro h; exact ⟨h.1, by omega, h.2.2⟩
      · intro h
        refine ⟨h.1, ?_, h.2.2⟩
        by_cases he : j = (n : Int)
        · subst he
          exfalso
          apply hs
          cases hq : lookE (n : Int) es with
          | none => exact absurd hq h.2.2
          | some v => rfl
        · omega
theorem keptL_none (es : EL) : ∀ n : Nat, (∀ k : Nat, k < n → lookE (k : Int) es = none) → keptL es n = []
  | 0, _ => rfl
  | n + 1, h => by
    unfold keptL
    rw [h n (by omega), if_neg (by simp)]
    exact keptL_none es n (fun k hk => h k (by omega))
/-- A set of numbers, as the law keeps it. -/
def inE (xs : List Int) : EL := xs.foldl (fun e j => updE j (.bool true) e) []
theorem foldE_look (j : Int) : ∀ (xs : List Int) (e : EL), lookE j (xs.foldl (fun e j => updE j (.bool true) e) e) = if j ∈ xs then some (.bool true) else lookE j e
  | [], e => by simp
  | x :: xs, e => by
    rw [List.foldl_cons, foldE_look j xs, look_upd]
    by_cases h1 : j ∈ xs
    · rw [if_pos h1, if_pos (List.mem_cons_of_mem _ h1)]
    · rw [if_neg h1]
      by_cases h2 : j = x
      · rw [if_pos h2, if_pos (by rw [h2]; exact List.mem_cons_self)]
      · rw [if_neg h2, if_neg (by simp [h1, h2])]
theorem inE_look (j : Int) (xs : List Int) : lookE j (inE xs) = if j ∈ xs then some (.bool true) else none := foldE_look j xs []
theorem inE_snoc (xs : List Int) (i : Nat) (h : i < xs.length) : inE (xs.take (i + 1)) = updE (xs.getD i 0) (.bool true) (inE (xs.take i)) := by
  unfold inE
  rw [List.take_succ_eq_append_getElem h, List.foldl_append, List.getD_eq_getElem?_getD, List.getElem?_eq_getElem h]
  rfl
/-- What was let go: the first so many. -/
def goneN : Nat → Nat
  | 0 => 0
  | k + 1 => goneN k ||| 2 ^ k
theorem goneN_bit (j : Nat) : ∀ k, (goneN k).testBit j = decide (j < k)
  | 0 => by simp [goneN]
  | k + 1 => by
    rw [goneN, Nat.testBit_or, goneN_bit j k, Nat.testBit_two_pow]
    by_cases h : j < k
    · simp [h]; omega
    · by_cases h2 : k = j
      · simp [h2]
      · simp [h, h2]; omega
theorem goneN_lt : ∀ k, k ≤ 64 → goneN k < 18446744073709551616
  | 0, _ => by decide
  | k + 1, h => by
    have ih := goneN_lt k (by omega)
    have hp : 2 ^ k < 2 ^ 64 := Nat.pow_lt_pow_right (by decide) (by omega)
    have := Nat.or_lt_two_pow (n := 64) (by simpa using ih) hp
    simpa [goneN] using this
def delN (es : EL) : Nat → EL
  | 0 => es
  | k + 1 => delE (k : Int) (delN es k)
theorem delN_look (es : EL) (h : keysE es) (j : Int) : ∀ k, keysE (delN es k) ∧ lookE j (delN es k) = if 0 ≤ j ∧ j < k then none else lookE j es
  | 0 => ⟨h, by rw [if_neg (by omega)]; rfl⟩
  | k + 1 => by
    obtain ⟨a, b⟩ := delN_look es h j k
    refine ⟨keysE_del _ _ a, ?_⟩
    show lookE j (delE (k : Int) (delN es k)) = _
    rw [look_del _ _ _ a, b]
    by_cases h1 : j = (k : Int)
    · rw [if_pos h1, if_pos (by omega)]
    · rw [if_neg h1]
      by_cases h2 : 0 ≤ j ∧ j < k
      · rw [if_pos h2, if_pos (by omega)]
      · rw [if_neg h2, if_neg (by omega)]
theorem zero_b (w : World) : (zeroValue 4).run Try.prog w = .ok (.bool false) w := by kernel_rfl
theorem at_I {w : World} {A : Option Addr} {xs : List Int} (h : (Kd.int .i64).C w A xs.length xs) (i : Nat) (hi : i < xs.length) : ∃ ad, A = some ad ∧ w.cell? (ad.add i) = some (.int .i64 (xs.getD i 0)) := by
  obtain ⟨ad, c, e, _, hK, hc⟩ := Kd.C_get h 0 (i : Int) (by omega) (by omega)
  refine ⟨ad, e, ?_⟩
  rw [Int.toNat_natCast] at hK hc
  have hK' : c = [.int .i64 (xs.getD i 0)] := hK
  subst hK'
  have := hc 0 _ rfl
  simpa [show (Kd.int IntKind.i64).sz = 1 from rfl] using this
set_option maxRecDepth 100000 in
set_option maxHeartbeats 800000 in
theorem still_write_no (g gf q m : Nat) (l : List UInt8) (n : Int) (es : EL) (gone : Nat) (s : ByteArray) (w : World) (hS : StillAt w g gf m gone) (hF : FilmAt w gf q l) (hM : MapAt w m es)
    (hl : l.length ≤ 512) (h : ¬ mayB l.length n s.size) :
    Calls Try.prog 8 #[.pointer (some ⟨g, 0, none⟩), .int .i64 n, .string s] w fun e w' => e = .returned (.int .i64 1) ∧ Below w.heap.size w w' := by
  have HS := Aside0.mk hS
  have HF := Aside0.mk hF
  have c0 := hS.cell (i := 0) rfl
  have h' := Aside0.mk h
  have hl' := Aside0.mk hl
  clear hS hF hM h hl
  go_enter Try.func8, Try.ntmps8
  go_wp2_with fail
  refine (still_none g gf m gone _ HS.out).mono ?_
  rintro e w1 ⟨rfl, rfl⟩
  go_wp2_with fail
  refine (film_copy gf q l _ HF.out).mono ?_
  rintro e w2 ⟨g', q', rfl, hg1, hq1, hf, hB⟩
  have HF2 := Aside0.mk (HF.out.keep hB)
  have HB2 := Aside0.mk hB
  have c0 := (HS.out.keep hB).cell (i := 0) rfl
  clear hB hf hg1 hq1 HS HF
  go_wp2_with fail
  refine (film_write_no gf q l n s _ HF2.out hl'.out h'.out).mono ?_
  rintro e w3 ⟨rfl, rfl⟩
  go_wp2_with fail
  go_ret
  exact ⟨rfl, HB2.out⟩
theorem still_write_any (g gf q m : Nat) (l : List UInt8) (b : Nat) (n : Int) (es : EL) (s : ByteArray) (w : World) (hS : StillAt w g gf m 0) (hF : FilmAt w gf q l) (hM : MapAt w m es)
    (hl : l.length = 8 * b) (hb : b ≤ 64) :
    Calls Try.prog 8 #[.pointer (some ⟨g, 0, none⟩), .int .i64 n, .string s] w fun e w' => ∃ c, e = .returned (.int .i64 c) ∧ FilmAt w' gf q (wrV l n s) ∧ MapAt w' m (keV l n s es) ∧ Chg w w' [q, m] := by
  unfold wrV keV
  by_cases h : mayB l.length n s.size
  · rw [if_pos h, if_pos h]
    obtain ⟨m1, m2, m3, m4⟩ := h
    obtain ⟨a, rfl⟩ := Int.eq_ofNat_of_zero_le m1
    rw [Int.toNat_natCast]
    exact (still_write g gf q m l b a es 0 s w hS hF hM hl hb (by decide) (by omega)).mono fun e w' ⟨h1, h2, h3, h4⟩ => ⟨0, h1, h2, h3, h4⟩
  · rw [if_neg h, if_neg h]
    exact (still_write_no g gf q m l n es 0 s w hS hF hM (by omega) h).mono fun e w' ⟨h1, h2⟩ => ⟨1, h1, hF.keep h2, hM.keep h2, Chg.of h2 _⟩
set_option maxRecDepth 100000 in
theorem still_let_no (g gf q m : Nat) (l : List UInt8) (b k : Nat) (gone : Nat) (w : World) (hS : StillAt w g gf m gone) (hF : FilmAt w gf q l)
    (hl : l.length = 8 * b) (hb : b ≤ 64) (hg : gone < 18446744073709551616) (h : k < b) (hbit : gone.testBit k = true) :
    Calls Try.prog 17 #[.pointer (some ⟨g, 0, none⟩), .int .i64 k] w fun e w' => e = .returned (.bool false) ∧ w' = w := by
  have hth := Aside0.mk (still_there g gf q m l b k gone w hS hF hl h)
  have haw := Aside0.mk (still_away g gf m gone k hg (by omega) w hS)
  rw [hbit] at haw
  clear hS hF hl hb hg h hbit
  go_enter Try.func17, Try.ntmps17
  go_wp2_with fail
  refine hth.out.mono ?_
  rintro e w1 ⟨rfl, rfl⟩
  go_wp2_with fail
  refine haw.out.mono ?_
  rintro e w2 ⟨rfl, rfl⟩
  go_wp2_with fail
  go_ret
  exact ⟨rfl, rfl⟩
theorem Chg.cell {w w1 : World} {S : List Nat} (k : Chg w w1 S) {p : Addr} {v : Value} (h : w.cell? p = some v) (hp : p.block ∉ S) : w1.cell? p = some v := by
  have := k.block p.block (World.block_lt_of_cell? w p h) hp
  rw [← h]
  simp [World.cell?, this]
theorem MapAt.ne_cell {w : World} {b : Nat} {es : EL} (h : MapAt w b es) {p : Addr} {v : Value} (hc : w.cell? p = some v) : p.block ≠ b := by
  rintro rfl
  obtain ⟨ms, c, h1, _⟩ := h
  simp [World.cell?, h1] at hc
theorem C_chg {w w1 : World} {S : List Nat} {A : Option Addr} {n : Nat} {l : List S45} (h : Kd.C k45 w A n l) (k : Chg w w1 S) (hp : ∀ (p : Addr) v, w.cell? p = some v → p.block ∉ S) : Kd.C k45 w1 A n l := by
  refine ⟨h.1, h.2.1, fun hn => ?_⟩
  obtain ⟨ad, rfl, hc⟩ := h.2.2 hn
  refine ⟨ad, rfl, fun j p hj => ?_⟩
  obtain ⟨c, h1, h2, h3⟩ := hc j p hj
  exact ⟨c, h1, h2, fun i u hu => k.cell (h3 i u hu) (hp _ _ (h3 i u hu))⟩
/-- A block that is not alike is kept. -/
theorem unl_in (l1 L : List UInt8) (B : Nat) (ES : EL) (hB : B ≤ 64) (hK : KeptOf l1 L B ES) (j : Int) (h : mem (unlV (blkV l1 B) (blkV L B) B) j) : 0 ≤ j ∧ j < B ∧ lookE j ES ≠ none := by
  obtain ⟨h1, h2, h3⟩ := ((unlV_spec _ _ B hB).2 j).1 h
  refine ⟨h1, h2, fun hn => h3 ?_⟩
  unfold blkV
  rw [if_pos (by omega), if_pos (by omega)]
  rcases hK.2.2.2 j.toNat (by omega) with h4 | ⟨_, h4⟩
  · rw [Int.toNat_of_nonneg h1, hn] at h4; cases h4
  · rw [h4]
end Go.Proofs.Ytknphhcppllpoaa.Hand
