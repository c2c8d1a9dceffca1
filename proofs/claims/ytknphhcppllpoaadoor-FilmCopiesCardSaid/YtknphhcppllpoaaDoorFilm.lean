/- Volumes (film), as the program keeps them, walked. -/
import Derived.Test.YtknphhcppllpoaaDoorAbs
import Derived.Laws.IdiomCopy
import Derived.Laws.IdiomStrings
import Derived.Test.YtknphhcppllpoaaDoorAx0
namespace Go.Proofs.YtknphhcppllpoaaDoor.Hand
open Go.RowKit Go.Proofs.YtknphhcppllpoaaDoorW.PrintWords Go.Proofs.YtknphhcppllpoaaDoorW.PrintLast Go.Proofs.YtknphhcppllpoaaDoorW.PrintMore Go.Proofs.YtknphhcppllpoaaDoor.A
set_option linter.unusedVariables false
set_option linter.unusedSimpArgs false
attribute [local go_sem] max2_int min2_int max_two min_two max_three min_three max_four min_four
/-- A block that holds just these bytes (and room behind them), none of them frozen. -/
def ByteAt (w : World) (q : Nat) (l : List UInt8) : Prop := ∃ cs fr, w.heap[q]? = some (.cells cs 5 fr) ∧ (∀ j (h : j < l.length), cs[j]? = some (.int .u8 (l[j].toNat : Int))) ∧ ∀ j, j < l.length → (decide (fr.1 ≤ j) && decide (j < fr.2)) = false
/-- A volume: its block, the block of its bytes. -/
def FilmAt (w : World) (g q : Nat) (l : List UInt8) : Prop := ∃ c, Blk w g 66 #[.slice (some ⟨q, 0, none⟩) l.length c] ∧ l.length ≤ c ∧ ByteAt w q l
section
variable {w w1 : World} {g q : Nat} {l : List UInt8}
theorem heap_lt {w : World} {q : Nat} {o : Obj} (h : w.heap[q]? = some o) : q < w.heap.size := by
  rcases Nat.lt_or_ge q w.heap.size with hlt | hge
  · exact hlt
  · rw [Array.getElem?_eq_none hge] at h; cases h
theorem ByteAt.lt (h : ByteAt w q l) : q < w.heap.size := by obtain ⟨_, _, h, _⟩ := h; exact heap_lt h
theorem ByteAt.cell (h : ByteAt w q l) {j : Nat} (hj : j < l.length) : w.cell? ⟨q, j, none⟩ = some (.int .u8 (l[j].toNat : Int)) := by
  obtain ⟨cs, fr, hb, hc, _⟩ := h
  exact (cell_of_row w q j cs _ fr hb).trans (hc j hj)
theorem ByteAt.frozen (h : ByteAt w q l) {j : Nat} (hj : j < l.length) : w.frozen? ⟨q, j, none⟩ = false := by
  obtain ⟨cs, fr, hb, _, hf⟩ := h
  have := hf j hj
  obtain ⟨a, b⟩ := fr
  simpa [World.frozen?, hb] using this
theorem ByteAt.move (h : ByteAt w q l) (hb : w1.heap[q]? = w.heap[q]?) : ByteAt w1 q l := by
  obtain ⟨cs, fr, h1, h2⟩ := h
  exact ⟨cs, fr, hb.trans h1, h2⟩
theorem FilmAt.lt (h : FilmAt w g q l) : g < w.heap.size ∧ q < w.heap.size := by
  obtain ⟨c, hb, _, ha⟩ := h
  exact ⟨hb.lt, ha.lt⟩
theorem FilmAt.ne (h : FilmAt w g q l) : g ≠ q := by
  obtain ⟨c, hb, _, cs, fr, hq, _⟩ := h
  rintro rfl
  rw [hb.hd] at hq
  injection hq with hq
  injection hq with _ hq
  exact absurd hq (by decide)
theorem FilmAt.move (h : FilmAt w g q l) (hg : w1.heap[g]? = w.heap[g]?) (hq : w1.heap[q]? = w.heap[q]?) : FilmAt w1 g q l := by
  obtain ⟨c, hb, hc, ha⟩ := h
  exact ⟨c, hg.trans hb, hc, ha.move hq⟩
theorem FilmAt.keep (h : FilmAt w g q l) (hB : Below w.heap.size w w1) : FilmAt w1 g q l := h.move (hB.block g h.lt.1) (hB.block q h.lt.2)
theorem FilmAt.only {p : Nat} (h : FilmAt w g q l) (ho : Only w w1 p) (h1 : g ≠ p) (h2 : q ≠ p) : FilmAt w1 g q l :=
  h.move (ho.block g h.lt.1 (fun e => h1 (by injection e))) (ho.block q h.lt.2 (fun e => h2 (by injection e)))
end
/-- Bytes laid over others. -/
def spl (l : List UInt8) (a : Nat) (s : List UInt8) : List UInt8 := l.take a ++ (s ++ l.drop (a + s.length))
theorem spl_length (l : List UInt8) (a : Nat) (s : List UInt8) (h : a + s.length ≤ l.length) : (spl l a s).length = l.length := by unfold spl; simp; omega
theorem spl_get (l : List UInt8) (a : Nat) (s : List UInt8) (h : a + s.length ≤ l.length) (j : Nat) : (spl l a s)[j]? = if a ≤ j ∧ j < a + s.length then s[j - a]? else l[j]? := by
  unfold spl
  rw [List.getElem?_append, List.getElem?_append, List.length_take]
  split
  · rw [List.getElem?_take, if_pos (by omega), if_neg (by omega)]
  · split
    · rw [if_pos (by omega), show min a l.length = a by omega]
    · rw [if_neg (by omega), List.getElem?_drop]; congr 1; omega
theorem heap_setCells (b : Nat) (k : Nat) (hk : k ≠ b) : ∀ (vs : List Value) (o : Nat) (w : World), (w.setCells b o vs).heap[k]? = w.heap[k]?
  | [], _, _ => rfl
  | v :: r, o, w => by rw [World.setCells, heap_setCells b k hk r]; exact Below.heap_setCell _ _ _ _ hk
theorem only_setCells (b : Nat) : ∀ (vs : List Value) (o : Nat) (a w : World), Only a w b → Only a (w.setCells b o vs) b
  | [], _, _, _, h => h
  | v :: r, o, a, w, h => by rw [World.setCells]; exact only_setCells b r (o + 1) a _ (only_set h o v)
theorem shape_setCells (b : Nat) (t : TypeId) (fr : Nat × Nat) : ∀ (vs : List Value) (o : Nat) (w : World) (cs : Array Value), w.heap[b]? = some (.cells cs t fr) → ∃ cs', (w.setCells b o vs).heap[b]? = some (.cells cs' t fr)
  | [], _, _, cs, h => ⟨cs, h⟩
  | v :: r, o, w, cs, h => by
    rw [World.setCells]
    exact shape_setCells b t fr r (o + 1) _ (cs.setIfInBounds o v) (by simp [World.setCell, Array.getElem?_modify, h])
/-- The cells of bytes. -/
def u8s (s : List UInt8) : List Value := s.map fun b => .int .u8 (b.toNat : Int)
theorem u8s_length (s : List UInt8) : (u8s s).length = s.length := by unfold u8s; simp
theorem u8s_get (s : List UInt8) (j : Nat) (h : j < s.length) : (u8s s)[j]? = some (.int .u8 (s[j].toNat : Int)) := by unfold u8s; simp [h]
theorem u8s_one (s : List UInt8) : ∀ v ∈ u8s s, v.oneCell' = true := by
  unfold u8s
  intro v h
  obtain ⟨b, _, rfl⟩ := List.mem_map.1 h
  rfl
theorem ByteAt.set {w : World} {q : Nat} {l : List UInt8} (h : ByteAt w q l) (a : Nat) (s : List UInt8) (hf : a + s.length ≤ l.length) : ByteAt (w.setCells q a (u8s s)) q (spl l a s) := by
  obtain ⟨cs, fr, hb, hc, hz⟩ := id h
  obtain ⟨cs', hb'⟩ := shape_setCells q _ fr (u8s s) a w cs hb
  have hl := spl_length l a s hf
  refine ⟨cs', fr, hb', fun j hj => ?_, fun j hj => hz j (by omega)⟩
  have e : (w.setCells q a (u8s s)).cell? ⟨q, j, none⟩ = cs'[j]? := cell_of_row _ q j cs' _ fr hb'
  rw [← e]
  have hg := spl_get l a s hf j
  rw [List.getElem?_eq_getElem hj] at hg
  by_cases hin : a ≤ j ∧ j < a + s.length
  · obtain ⟨k, rfl⟩ : ∃ k, j = a + k := ⟨j - a, by omega⟩
    rw [if_pos hin, Nat.add_sub_cancel_left, List.getElem?_eq_getElem (by omega)] at hg
    injection hg with hg
    rw [World.cell?_setCells_in q (u8s s) a w (fun i hi => by rw [u8s_length] at hi; rw [h.cell (j := a + i) (by omega)]; rfl) k (by rw [u8s_length]; omega), ← List.getElem?_eq_getElem, u8s_get s k (by omega), hg]
  · rw [if_neg hin, List.getElem?_eq_getElem (by omega)] at hg
    injection hg with hg
    rw [World.cell?_setCells_out q (u8s s) a w ⟨q, j, none⟩ (fun _ _ => by rw [u8s_length]; simp only; omega), h.cell (j := j) (by omega), hg]
theorem wpList_copy_str {P : Program} {w : World} {ops : Array Oper} {rest : List Oper} {o : Oper} {a : Act} {Q : Exit → Act → World → Prop} (hgd : o.guard = none) (d s : Operand) (dT sT : TypeId)
    (ho : o.op = .call { callee := .builtin .copy, args := #[d, s], argTypes := #[dT, sT] }) (elem : TypeId) (hu : P.underlying dT = some (.slice elem)) (hsz : (P.info? elem).map (·.size) = some 1)
    (dp : Option Addr) (dLen dCap : Nat) (y : ByteArray) (hd : a.eval d = .slice dp dLen dCap) (hs : a.eval s = .string y) (hn : y.size ≤ dLen)
    (q off : Nat) (l : List UInt8) (hb : ByteAt w q l) (hf : off + y.size ≤ l.length) (hpos : 0 < y.size → dp = some ⟨q, off, none⟩)
    (h : wpList P ops Q rest (a.put o.dst (goInt y.size)) (w.setCells q off (u8s y.data.toList))) : wpList P ops Q (o :: rest) a w := by
  have hyl : y.data.toList.length = y.size := by rw [Array.length_toList]; rfl
  have hrun : (Builtin.copy_ #[dT, sT] o.type #[.slice dp dLen dCap, .string y]).run P w = .ok (goInt y.size) (w.setCells q off (u8s y.data.toList)) := by
    have hex : y.extract 0 y.size = y := ByteArray.extract_zero_size
    have htk : List.take y.size (List.map (fun b => Value.int .u8 (b.toNat : Int)) y.data.toList) = u8s y.data.toList := by
      rw [List.take_of_length_le (by rw [List.length_map, hyl]; omega)]; rfl
    cases hq : P.info? elem with
    | none => simp [hq] at hsz
    | some i =>
      have hi : i.size = 1 := by simpa [hq] using hsz
      by_cases h0 : y.size = 0
      · have hy : y.data.toList = [] := List.eq_nil_of_length_eq_zero (by omega)
        have hy2 : y.data = #[] := by simpa using hy
        obtain rfl : y = ⟨#[]⟩ := by cases y; simp_all
        show _ = Result.ok _ w
        clear hex htk hyl hy hy2
        cases dp <;> simp [Builtin.copy_, run_underlying hu, Builtin.lenOf, Builtin.firstCells, sizeOf, typeInfo, hq, hi, storeCells, ByteArray.size, u8s, World.setCells]
      · obtain rfl := hpos (by omega)
        have hst := run_storeCells_cells (P := P) q off (u8s y.data.toList) 0 w
          (fun j hj => by rw [u8s_length, hyl] at hj; rw [Nat.add_zero, hb.cell (j := off + j) (by omega)]; rfl)
          (fun j hj => by rw [u8s_length, hyl] at hj; rw [Nat.add_zero]; exact hb.frozen (by omega)) (u8s_one _)
        rw [Nat.add_zero] at hst
        simp [Builtin.copy_, run_underlying hu, Builtin.lenOf, Builtin.firstCells, sizeOf, typeInfo, hq, hi, Nat.min_eq_left hn, hex, htk, hst]
  refine wpList_plain hgd fun K hK => ?_
  unfold Oper.wp
  simp [execOp, ho, resolve, invoke, builtin, hd, hs, hrun, Result.andThen]
  exact hK _ _ h
theorem info5' : (Tryd.prog.info? 5).map (fun i => (i.zero, i.size, i.bytes)) = some (some (.int .u8 0), 1, 1) := by kernel_rfl
set_option maxRecDepth 100000 in
set_option maxHeartbeats 800000 in
theorem film_new (b : Nat) (h1 : 1 ≤ b) (h2 : b ≤ 64) (w : World) :
    Calls Tryd.prog 9 #[.int .i64 b] w fun e w' => ∃ g q, e = .returned (.tuple #[.pointer (some ⟨g, 0, none⟩), .int .i64 0]) ∧ w.heap.size ≤ g ∧ w.heap.size ≤ q ∧ FilmAt w' g q (List.replicate (8 * b) 0) ∧ Below w.heap.size w w' := by
  obtain ⟨i0, hi, hz0, hz1, hz2⟩ := info_parts info5'
  have hmk : ∀ W : World, (Instr.makeSlice 60 (.int .i64 ((b : Int) * 8)) (.int .i64 ((b : Int) * 8))).run Tryd.prog W = .ok (.slice (some ⟨W.heap.size, 0, none⟩) (8 * b) (8 * b)) (W.alloc (.cells (u8s (List.replicate (8 * b) 0)).toArray 5)) := by
    intro W
    have h := run_make (P := Tryd.prog) W 60 5 i0 (.int .u8 0) Tryd.underlying60 hi hz0 .i64 .i64 ((b : Int) * 8) ((b : Int) * 8) (by omega) (by omega) (by rw [hz2]; omega) (by omega)
    rw [h, hz1, show ((b : Int) * 8).toNat = 8 * b by omega, Nat.mul_one]
    have hm : madeCells (Value.int .u8 0).cells (8 * b) = (u8s (List.replicate (8 * b) 0)).toArray := by
      apply Array.toList_inj.1
      show (madeCells #[Value.int .u8 0] _).toList = _
      rw [toList_madeCells_one]; unfold u8s; simp
    rw [hm]
  have hb1 : (1 : Int) ≤ (b : Int) := by omega
  have hb2 : (b : Int) ≤ 64 := by omega
  clear h1 h2
  go_enter Tryd.func9, Tryd.ntmps9
  go_wp2_with fail
  go_ret2
  refine ⟨w.heap.size + 1, w.heap.size, by simp, by omega, Nat.le_refl _, ⟨8 * b, ?_, by simp, (u8s (List.replicate (8 * b) 0)).toArray, (0, 0), ?_, ?_, ?_⟩, by repeat (first | exact Below.refl _ _ | apply below_alloc)⟩
  · have := Blk.new2 w (.cells (u8s (List.replicate (8 * b) 0)).toArray 5) 66 #[.slice (some ⟨w.heap.size, 0, none⟩) (8 * b) (8 * b)]
    simpa using this
  · exact (Blk.new w 5 _).alloc _
  · intro j hj
    rw [List.getElem?_toArray]
    exact u8s_get _ _ hj
  · intro j hj; simp
set_option maxRecDepth 100000 in
theorem film_new_no (b : Int) (h : b < 1 ∨ (¬ b < 1 ∧ 64 < b)) (w : World) :
    Calls Tryd.prog 9 #[.int .i64 b] w fun e w' => e = .returned (.tuple #[.pointer none, .int .i64 1]) ∧ w' = w := by
  rcases h with h | ⟨h, h2⟩
  all_goals
    go_enter Tryd.func9, Tryd.ntmps9
    go_wp2_with fail
    go_ret2
    exact ⟨rfl, rfl⟩
/-- May so many bytes be, from one on? -/
def mayB (n : Nat) (a m : Int) : Prop := 0 ≤ a ∧ a ≤ n ∧ 0 ≤ m ∧ m ≤ n - a
instance (n : Nat) (a m : Int) : Decidable (mayB n a m) := by unfold mayB; infer_instance
set_option maxRecDepth 100000 in
set_option maxHeartbeats 800000 in
theorem film_may_yes (g q : Nat) (l : List UInt8) (a m : Int) (w : World) (hf : FilmAt w g q l) (hl : l.length ≤ 512) (h : mayB l.length a m) :
    Calls Tryd.prog 24 #[.pointer (some ⟨g, 0, none⟩), .int .i64 a, .int .i64 m] w fun e w' => e = .returned (.bool true) ∧ w' = w := by
  obtain ⟨c, hb, hlc, ha⟩ := hf
  have c0 := hb.cell (i := 0) rfl
  obtain ⟨h1, h2, h3, h4⟩ := h
  have hl' : (l.length : Int) ≤ 512 := by omega
  clear hb ha hlc hl
  go_enter Tryd.func24, Tryd.ntmps24
  go_wp2_with fail
  go_ret
  exact ⟨rfl, rfl⟩
set_option maxRecDepth 100000 in
set_option maxHeartbeats 800000 in
theorem film_may_no (g q : Nat) (l : List UInt8) (a m : Int) (w : World) (hf : FilmAt w g q l) (hl : l.length ≤ 512) (h : ¬ mayB l.length a m) :
    Calls Tryd.prog 24 #[.pointer (some ⟨g, 0, none⟩), .int .i64 a, .int .i64 m] w fun e w' => e = .returned (.bool false) ∧ w' = w := by
  obtain ⟨c, hb, hlc, ha⟩ := hf
  have c0 := hb.cell (i := 0) rfl
  have hl' : (l.length : Int) ≤ 512 := by omega
  clear hb ha hlc hl
  have hcase : a < 0 ∨ (0 ≤ a ∧ (l.length : Int) < a) ∨ (0 ≤ a ∧ a ≤ l.length ∧ m < 0) ∨ (0 ≤ a ∧ a ≤ l.length ∧ 0 ≤ m ∧ (l.length : Int) - a < m) := by
    unfold mayB at h; omega
  clear h
  rcases hcase with h | ⟨h0, h⟩ | ⟨h0, h1, h⟩ | ⟨h0, h1, h2, h⟩
  all_goals
    go_enter Tryd.func24, Tryd.ntmps24
    go_wp2_with fail
    go_ret
    first
      | exact ⟨rfl, rfl⟩
      | exact ⟨congrArg (fun b => Ending.returned (Value.bool b)) (decide_eq_false (by omega)), rfl⟩
theorem info5s : (Tryd.prog.info? 5).map (·.size) = some 1 := by kernel_rfl
set_option maxRecDepth 100000 in
set_option maxHeartbeats 800000 in
theorem film_write (g q : Nat) (l : List UInt8) (a : Nat) (s : ByteArray) (w : World) (hf : FilmAt w g q l) (hl : l.length ≤ 512) (h : a + s.size ≤ l.length) :
    Calls Tryd.prog 10 #[.pointer (some ⟨g, 0, none⟩), .int .i64 a, .string s] w fun e w' => e = .returned (.int .i64 0) ∧ FilmAt w' g q (spl l a s.data.toList) ∧ Only w w' q := by
  have hm := Aside0.mk (film_may_yes g q l (a : Int) (s.size : Int) w hf hl ⟨by omega, by omega, by omega, by omega⟩)
  have HF := Aside0.mk hf
  have hne := Aside0.mk hf.ne
  obtain ⟨c, hb, hlc, ha⟩ := hf
  have c0 := hb.cell (i := 0) rfl
  have HA := Aside0.mk ha
  have HB := Aside0.mk hb
  have Hlc := Aside0.mk hlc
  have hac : a ≤ l.length := by omega
  have hac2 : a ≤ c := by omega
  have hl' : (l.length : Int) ≤ 512 := by omega
  have hsz := Aside0.mk h
  have hyl : s.data.toList.length = s.size := by rw [Array.length_toList]; rfl
  have hyl := Aside0.mk hyl
  clear hb ha hlc hl h
  go_enter Tryd.func10, Tryd.ntmps10
  go_wp2_with fail
  refine hm.out.mono ?_
  rintro e w1 ⟨rfl, rfl⟩
  go_wp2_with (with_reducible refine wpList_copy_str rfl (.tmp 18) (.tmp 19) 60 9 rfl 5 Tryd.underlying60 info5s _ _ _ s rfl rfl (by have := hsz.out; omega) q a l HA.out hsz.out (by intro hp; have := hsz.out; have := Hlc.out; first | rfl | (rw [if_neg (by omega)]; simp [Addr.add]) | (simp [Addr.add]; try omega)) ?_)
  all_goals
    go_ret
    refine ⟨rfl, ⟨c, ?_, ?_, ?_⟩, only_setCells q _ _ _ _ (only_refl _ _)⟩
    · have e : (spl l a s.data.toList).length = l.length := spl_length _ _ _ (by rw [hyl.out]; exact hsz.out)
      rw [e]
      exact (heap_setCells q g hne.out _ _ _).trans HB.out
    · rw [spl_length _ _ _ (by rw [hyl.out]; exact hsz.out)]; exact Hlc.out
    · exact HA.out.set a _ (by rw [hyl.out]; exact hsz.out)
set_option maxRecDepth 100000 in
set_option maxHeartbeats 800000 in
theorem film_write_no (g q : Nat) (l : List UInt8) (a : Int) (s : ByteArray) (w : World) (hf : FilmAt w g q l) (hl : l.length ≤ 512) (h : ¬ mayB l.length a s.size) :
    Calls Tryd.prog 10 #[.pointer (some ⟨g, 0, none⟩), .int .i64 a, .string s] w fun e w' => e = .returned (.int .i64 1) ∧ w' = w := by
  have hm := Aside0.mk (film_may_no g q l a (s.size : Int) w hf hl h)
  clear hf hl h
  go_enter Tryd.func10, Tryd.ntmps10
  go_wp2_with fail
  refine hm.out.mono ?_
  rintro e w1 ⟨rfl, rfl⟩
  go_wp2_with fail
  go_ret
  exact ⟨rfl, rfl⟩
set_option maxRecDepth 100000 in
set_option maxHeartbeats 800000 in
theorem film_blocks (g q : Nat) (l : List UInt8) (b : Nat) (w : World) (hf : FilmAt w g q l) (hl : l.length = 8 * b) :
    Calls Tryd.prog 23 #[.pointer (some ⟨g, 0, none⟩)] w fun e w' => e = .returned (.int .i64 b) ∧ w' = w := by
  obtain ⟨c, hb, hlc, ha⟩ := hf
  have c0 := hb.cell (i := 0) rfl
  have e : ((l.length : Nat) : Int) / 8 = b := by omega
  clear hb ha hlc hl
  go_enter Tryd.func23, Tryd.ntmps23
  go_wp2_with fail
  go_ret
  exact ⟨rfl, rfl⟩
theorem film_blocks_nil (w : World) :
    Calls Tryd.prog 23 #[.pointer none] w fun e w' => e = .returned (.int .i64 0) ∧ w' = w := by
  go_enter Tryd.func23, Tryd.ntmps23
  go_wp2_with fail
  go_ret
  exact ⟨rfl, rfl⟩
theorem ByteAt.str {w : World} {q : Nat} {l : List UInt8} (h : ByteAt w q l) (a n : Nat) (hn : a + n ≤ l.length) (c : Nat) (dp : Option Addr) (hd : 0 < n → dp = some ⟨q, a, none⟩) :
    (convert 60 9 (.slice dp n c)).run Tryd.prog w = .ok (.string ⟨((l.drop a).take n).toArray⟩) w := by
  have hlen : ((l.drop a).take n).length = n := by rw [List.length_take, List.length_drop]; omega
  rcases Nat.eq_zero_or_pos n with rfl | hp
  · have e : (⟨((l.drop a).take 0).toArray⟩ : ByteArray) = strOfNums [] := by simp [strOfNums]
    rw [e]
    exact string_of_reads Tryd.underlying60 Tryd.underlying5 Tryd.underlying9 ⟨rfl, by decide, fun hp => by omega⟩
  · rw [hd hp]
    have h2 := run_convert_bytes_back (P := Tryd.prog) w 60 9 5 ⟨q, a, none⟩ c ((l.drop a).take n) Tryd.underlying60 Tryd.underlying5 Tryd.underlying9 (fun j hj => by
      rw [Addr.add_lit, h.cell (j := a + j) (by omega)]
      congr 3
      rw [List.getElem_take, List.getElem_drop])
    rwa [hlen] at h2
set_option maxRecDepth 100000 in
set_option maxHeartbeats 800000 in
theorem film_read (g q : Nat) (l : List UInt8) (a n : Nat) (w : World) (hf : FilmAt w g q l) (hl : l.length ≤ 512) (h : a + n ≤ l.length) :
    Calls Tryd.prog 12 #[.pointer (some ⟨g, 0, none⟩), .int .i64 a, .int .i64 n] w fun e w' => e = .returned (.tuple #[.string ⟨((l.drop a).take n).toArray⟩, .int .i64 0]) ∧ w' = w := by
  have hm := Aside0.mk (film_may_yes g q l (a : Int) (n : Int) w hf hl ⟨by omega, by omega, by omega, by omega⟩)
  obtain ⟨c, hb, hlc, ha⟩ := hf
  have c0 := hb.cell (i := 0) rfl
  have hs := fun (C : Nat) => ha.str a n h C (some ⟨q, a, none⟩) (fun _ => rfl)
  have hs0 := fun (h0 : n = 0) (C : Nat) => ha.str a n h C (some ⟨q, 0, none⟩) (fun hp => by omega)
  generalize (⟨((l.drop a).take n).toArray⟩ : ByteArray) = R at *
  have hac : a + n ≤ l.length := h
  have hac2 : a + n ≤ c := by omega
  have hl' : (l.length : Int) ≤ 512 := by omega
  by_cases hca : c = a
  · obtain rfl : n = 0 := by omega
    have hs0 := hs0 rfl
    have hs' := hs0 0
    clear hb ha hlc hl h hs
    subst hca
    go_enter Tryd.func12, Tryd.ntmps12
    go_wp2_with fail
    refine hm.out.mono ?_
    rintro e w1 ⟨rfl, rfl⟩
    go_wp2_with fail
    all_goals
      go_ret2
      exact ⟨rfl, rfl⟩
  · clear hb ha hlc hl h hs0
    go_enter Tryd.func12, Tryd.ntmps12
    go_wp2_with fail
    refine hm.out.mono ?_
    rintro e w1 ⟨rfl, rfl⟩
    go_wp2_with fail
    go_ret2
    exact ⟨rfl, rfl⟩
set_option maxRecDepth 100000 in
set_option maxHeartbeats 800000 in
theorem film_read_no (g q : Nat) (l : List UInt8) (a n : Int) (w : World) (hf : FilmAt w g q l) (hl : l.length ≤ 512) (h : ¬ mayB l.length a n) :
    Calls Tryd.prog 12 #[.pointer (some ⟨g, 0, none⟩), .int .i64 a, .int .i64 n] w fun e w' => e = .returned (.tuple #[.string ⟨#[]⟩, .int .i64 1]) ∧ w' = w := by
  have hm := Aside0.mk (film_may_no g q l a n w hf hl h)
  clear hf hl h
  go_enter Tryd.func12, Tryd.ntmps12
  go_wp2_with fail
  refine hm.out.mono ?_
  rintro e w1 ⟨rfl, rfl⟩
  go_wp2_with fail
  go_ret2
  exact ⟨rfl, rfl⟩
set_option maxRecDepth 100000 in
set_option maxHeartbeats 800000 in
theorem film_block (g q : Nat) (l : List UInt8) (b k : Nat) (w : World) (hf : FilmAt w g q l) (hl : l.length = 8 * b) (hb : b ≤ 64) (h : k < b) :
    Calls Tryd.prog 11 #[.pointer (some ⟨g, 0, none⟩), .int .i64 k] w fun e w' => e = .returned (.tuple #[.string ⟨((l.drop (8 * k)).take 8).toArray⟩, .int .i64 0]) ∧ w' = w := by
  have hm := Aside0.mk (film_read g q l (8 * k) 8 w hf (by omega) (by omega))
  have hn := Aside0.mk (film_blocks g q l b w hf hl)
  have hk : (k : Int) < (b : Int) := by omega
  have hk2 : (k : Int) ≤ 64 := by omega
  have ek : ((8 * k : Nat) : Int) = (k : Int) * 8 := by omega
  rw [ek] at hm
  generalize (⟨((l.drop (8 * k)).take 8).toArray⟩ : ByteArray) = R at *
  clear hf hl h hb ek
  go_enter Tryd.func11, Tryd.ntmps11
  go_wp2_with fail
  refine hn.out.mono ?_
  rintro e w1 ⟨rfl, rfl⟩
  go_wp2_with fail
  refine hm.out.mono ?_
  rintro e w1 ⟨rfl, rfl⟩
  go_wp2_with fail
  go_ret2
  exact ⟨rfl, rfl⟩
set_option maxRecDepth 100000 in
set_option maxHeartbeats 800000 in
theorem film_block_no (g q : Nat) (l : List UInt8) (b : Nat) (k : Int) (w : World) (hf : FilmAt w g q l) (hl : l.length = 8 * b) (hb : b ≤ 64) (h : k < 0 ∨ (0 ≤ k ∧ (b : Int) ≤ k)) :
    Calls Tryd.prog 11 #[.pointer (some ⟨g, 0, none⟩), .int .i64 k] w fun e w' => e = .returned (.tuple #[.string ⟨#[]⟩, .int .i64 2]) ∧ w' = w := by
  have hn := Aside0.mk (film_blocks g q l b w hf hl)
  clear hf hl hb
  rcases h with h | ⟨h0, h⟩
  · go_enter Tryd.func11, Tryd.ntmps11
    go_wp2_with fail
    go_ret2
    exact ⟨rfl, rfl⟩
  · go_enter Tryd.func11, Tryd.ntmps11
    go_wp2_with fail
    refine hn.out.mono ?_
    rintro e w1 ⟨rfl, rfl⟩
    go_wp2_with fail
    go_ret2
    exact ⟨rfl, rfl⟩
theorem film_block_nil (k : Int) (w : World) :
    Calls Tryd.prog 11 #[.pointer none, .int .i64 k] w fun e w' => e = .returned (.tuple #[.string ⟨#[]⟩, .int .i64 1]) ∧ w' = w := by
  go_enter Tryd.func11, Tryd.ntmps11
  go_wp2_with fail
  go_ret2
  exact ⟨rfl, rfl⟩
set_option maxRecDepth 100000 in
set_option maxHeartbeats 800000 in
theorem film_bytes (g q : Nat) (l : List UInt8) (w : World) (hf : FilmAt w g q l) :
    Calls Tryd.prog 13 #[.pointer (some ⟨g, 0, none⟩)] w fun e w' => e = .returned (.string ⟨l.toArray⟩) ∧ w' = w := by
  obtain ⟨c, hb, hlc, ha⟩ := hf
  have c0 := hb.cell (i := 0) rfl
  have hs := fun (C : Nat) => ha.str 0 l.length (by omega) C (some ⟨q, 0, none⟩) (fun _ => rfl)
  rw [List.drop_zero, List.take_length] at hs
  clear hb ha hlc
  go_enter Tryd.func13, Tryd.ntmps13
  go_wp2_with fail
  go_ret
  exact ⟨rfl, rfl⟩
theorem bytes_row (s : ByteArray) (c : Nat) (j : Nat) (h : j < s.data.toList.length) : (bytesRow s c)[j]? = some (.int .u8 (s.data.toList[j].toNat : Int)) := by
  have h' : j < s.data.size := by simpa using h
  unfold bytesRow
  rw [Array.getElem?_append_left (by simpa using h'), Array.getElem?_map, Array.getElem?_eq_getElem h']
  simp
set_option maxRecDepth 100000 in
set_option maxHeartbeats 800000 in
theorem film_copy (g q : Nat) (l : List UInt8) (w : World) (hf : FilmAt w g q l) :
    Calls Tryd.prog 21 #[.pointer (some ⟨g, 0, none⟩)] w fun e w' => ∃ g' q', e = .returned (.pointer (some ⟨g', 0, none⟩)) ∧ w.heap.size ≤ g' ∧ w.heap.size ≤ q' ∧ FilmAt w' g' q' l ∧ Below w.heap.size w w' := by
  have hm := Aside0.mk (film_bytes g q l w hf)
  have hcv := fun (W : World) => run_bytes_of_string (P := Tryd.prog) W 9 60 5 ⟨l.toArray⟩ Tryd.underlying9 Tryd.underlying60 Tryd.underlying5
  have hsz : (⟨l.toArray⟩ : ByteArray).size = l.length := by simp [ByteArray.size]
  simp only [hsz] at hcv
  have hrow : ∀ (c j : Nat) (h : j < l.length), (bytesRow ⟨l.toArray⟩ c)[j]? = some (.int .u8 (l[j].toNat : Int)) := fun c j h => (bytes_row ⟨l.toArray⟩ c j (by simpa using h)).trans (by simp)
  have hrow := Aside0.mk hrow
  have hrs : ∀ c, (bytesRow ⟨l.toArray⟩ c).size = l.length + (c - l.length) := by intro c; unfold bytesRow; simp [ByteArray.size]
  have hrs := Aside0.mk hrs
  have hcap := Aside0.mk (fun (W : World) => (show l.length ≤ grownCap W l.length 0 5 from grownCap_ge _ _ _ _))
  clear hsz hf
  generalize hS : (⟨l.toArray⟩ : ByteArray) = S at *
  replace hS := Aside0.mk hS
  go_enter Tryd.func21, Tryd.ntmps21
  go_wp2_with fail
  refine hm.out.mono ?_
  rintro e w1 ⟨rfl, rfl⟩
  go_wp2_with fail
  go_ret
  refine ⟨w1.heap.size + 1, w1.heap.size, by simp, by omega, Nat.le_refl _, ⟨grownCap w1 l.length 0 5, ?_, hcap.out _, bytesRow S (grownCap w1 l.length 0 5), (l.length + (grownCap w1 l.length 0 5 - l.length), l.length + (grownCap w1 l.length 0 5 - l.length) + 1), ?_, hrow.out _, ?_⟩, ?_⟩
  · exact Blk.drew (Blk.new2 w1 _ _ _)
  · exact (Below.heap_alloc _ _ _ (by simp)).trans (heap_alloc_new w1 _)
  · intro j hj
    have := hcap.out w1
    simp only [Bool.and_eq_false_iff, decide_eq_false_iff_not]
    exact .inl (by omega)
  · exact Below.drew (below_alloc (below_alloc (Below.refl _ _) _) _)
/-- A block's bytes. -/
def blkS (l : List UInt8) (k : Nat) : ByteArray := ⟨((l.drop (8 * k)).take 8).toArray⟩
end Go.Proofs.YtknphhcppllpoaaDoor.Hand
