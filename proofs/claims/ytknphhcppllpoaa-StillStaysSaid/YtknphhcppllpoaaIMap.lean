/- Maps whose keys are ints, as lists of what they hold. -/
import Derived.Test.YtknphhcppllpoaaAbs
import Derived.Maps.OwnOps
import Derived.MapKept
namespace Go.Proofs.Ytknphhcppllpoaa.Hand
open Go.RowKit Go.MapKept Go.ChangeMaps Go.Proofs.YtknphhcppllpoaaW.PrintWords Go.Proofs.YtknphhcppllpoaaW.PrintLast Go.Proofs.YtknphhcppllpoaaW.PrintMore
set_option linter.unusedVariables false
set_option linter.unusedSimpArgs false
abbrev EL := List (Int × Value)
def vwE (e : MapEntry) : Value × Value := (e.key, e.val)
def enE (x : Int × Value) : Value × Value := (.int .i64 x.1, x.2)
/-- A map that holds just these, in this order. -/
def MapAt (w : World) (b : Nat) (es : EL) : Prop := ∃ ms clock, w.heap[b]? = some (.map ms clock) ∧ ms.toList.map vwE = es.map enE
def posE (k : Int) : EL → Nat → Option (Nat × Value)
  | [], _ => none
  | x :: l, i => if k = x.1 then some (i, x.2) else posE k l (i + 1)
def lookE (k : Int) : EL → Option Value
  | [] => none
  | x :: l => if k = x.1 then some x.2 else lookE k l
def updE (k : Int) (v : Value) : EL → EL
  | [] => [(k, v)]
  | x :: l => if k = x.1 then (k, v) :: l else x :: updE k v l
def delE (k : Int) : EL → EL
  | [] => []
  | x :: l => if k = x.1 then l else x :: delE k l
theorem posE_look (k : Int) : ∀ (es : EL) (i : Nat), (posE k es i).map (·.2) = lookE k es
  | [], _ => rfl
  | x :: l, i => by
    unfold posE lookE
    split
    · rfl
    · exact posE_look k l (i + 1)
theorem findE (k : Int) : ∀ (ms : List MapEntry) (es : EL) (i : Nat), ms.map vwE = es.map enE → Instr.findNow (.int .i64) (.int .i64 k) ms i = some (posE k es i)
  | [], [], _, _ => rfl
  | [], _ :: _, _, h => by simp at h
  | _ :: _, [], _, h => by simp at h
  | m :: ms, x :: es, i, h => by
    simp only [List.map_cons, List.cons.injEq] at h
    obtain ⟨h1, h2⟩ := h
    have hk : m.key = .int .i64 x.1 := congrArg Prod.fst h1
    have hv : m.val = x.2 := congrArg Prod.snd h1
    unfold Instr.findNow posE
    rw [hk]
    simp only [Instr.sameNow, if_true]
    by_cases e : k = x.1
    · rw [if_pos e, e]; simp [hv]
    · rw [if_neg e]
      have : (k == x.1) = false := by simpa using e
      rw [this]
      exact findE k ms es (i + 1) h2
theorem posE_ge (k : Int) : ∀ (es : EL) (i j : Nat) (v : Value), posE k es i = some (j, v) → i ≤ j
  | [], _, _, _, h => by cases h
  | x :: l, i, j, v, h => by
    unfold posE at h
    split at h
    · injection h with h; injection h with h; omega
    · have := posE_ge k l (i + 1) j v h; omega
theorem updE_at (k : Int) (v : Value) : ∀ (ms : List MapEntry) (es : EL) (i j : Nat) (v0 : Value), ms.map vwE = es.map enE → posE k es i = some (i + j, v0) →
    (ms.modify j fun e => { e with key := .int .i64 k, val := v }).map vwE = (updE k v es).map enE ∧ (ms[j]?).map (·.key) = some (.int .i64 k)
  | _, [], _, _, _, _, h => by cases h
  | [], _ :: _, _, _, _, h, _ => by simp at h
  | m :: ms, x :: es, i, j, v0, h, hp => by
    simp only [List.map_cons, List.cons.injEq] at h
    obtain ⟨h1, h2⟩ := h
    have hk : m.key = .int .i64 x.1 := congrArg Prod.fst h1
    unfold posE at hp
    unfold updE
    by_cases e : k = x.1
    · rw [if_pos e] at hp
      injection hp with hp; injection hp with hp
      obtain rfl : j = 0 := by omega
      rw [if_pos e]
      simp [vwE, enE, h2, hk, e]
    · rw [if_neg e] at hp
      have hge := posE_ge _ _ _ _ _ hp
      obtain ⟨j', rfl⟩ : ∃ j', j = j' + 1 := ⟨j - 1, by omega⟩
      have ih := updE_at k v ms es (i + 1) j' v0 h2 (by rw [hp]; congr 2; omega)
      rw [if_neg e]
      simp only [List.modify_succ_cons, List.map_cons, List.getElem?_cons_succ]
      exact ⟨by rw [h1, ih.1], ih.2⟩
theorem posE_none (k : Int) : ∀ (es : EL) (i : Nat), posE k es i = none → lookE k es = none := by
  intro es i h
  rw [← posE_look k es i, h]; rfl
theorem updE_none (k : Int) (v : Value) : ∀ es : EL, lookE k es = none → updE k v es = es ++ [(k, v)]
  | [], _ => rfl
  | x :: l, h => by
    unfold lookE at h
    unfold updE
    split at h
    · cases h
    · rename_i hne
      rw [if_neg hne, updE_none k v l h]; rfl
theorem delE_none (k : Int) : ∀ es : EL, lookE k es = none → delE k es = es
  | [], _ => rfl
  | x :: l, h => by
    unfold lookE at h
    unfold delE
    split at h
    · cases h
    · rename_i hne
      rw [if_neg hne, delE_none k l h]
theorem delE_at (k : Int) : ∀ (ms : List MapEntry) (es : EL) (i j : Nat) (v0 : Value), ms.map vwE = es.map enE → posE k es i = some (i + j, v0) → (ms.eraseIdx j).map vwE = (delE k es).map enE ∧ j < ms.length
  | _, [], _, _, _, _, h => by cases h
  | [], _ :: _, _, _, _, h, _ => by simp at h
  | m :: ms, x :: es, i, j, v0, h, hp => by
    simp only [List.map_cons, List.cons.injEq] at h
    obtain ⟨h1, h2⟩ := h
    unfold posE at hp
    unfold delE
    by_cases e : k = x.1
    · rw [if_pos e] at hp
      injection hp with hp; injection hp with hp
      obtain rfl : j = 0 := by omega
      rw [if_pos e]
      exact ⟨by simpa using h2, by simp⟩
    · rw [if_neg e] at hp
      have hge := posE_ge _ _ _ _ _ hp
      obtain ⟨j', rfl⟩ : ∃ j', j = j' + 1 := ⟨j - 1, by omega⟩
      have ih := delE_at k ms es (i + 1) j' v0 h2 (by rw [hp]; congr 2; omega)
      rw [if_neg e]
      simp only [List.eraseIdx_cons_succ, List.map_cons, List.length_cons]
      exact ⟨by rw [h1, ih.1], by omega⟩
theorem look_upd (k : Int) (v : Value) (j : Int) : ∀ es : EL, lookE j (updE k v es) = if j = k then some v else lookE j es
  | [] => by unfold updE lookE; rfl
  | x :: l => by
    have ih := look_upd k v j l
    unfold updE
    by_cases e : k = x.1
    · rw [if_pos e]
      by_cases e2 : j = k
      · simp [lookE, e2]
      · simp only [lookE, e2, if_false]
        rw [if_neg (by omega)]
    · rw [if_neg e]
      simp only [lookE, ih]
      by_cases e2 : j = k
      · rw [if_neg (by omega), if_pos e2, if_pos e2]
      · rw [if_neg e2, if_neg e2]
/-- No key stands twice. -/
def keysE : EL → Prop
  | [] => True
  | x :: l => lookE x.1 l = none ∧ keysE l
theorem look_del (k j : Int) : ∀ es : EL, keysE es → lookE j (delE k es) = if j = k then none else lookE j es
  | [], _ => by unfold delE lookE; simp
  | x :: l, h => by
    have ih := look_del k j l h.2
    unfold delE
    by_cases e : k = x.1
    · rw [if_pos e]
      by_cases e2 : j = k
      · rw [if_pos e2, e2, e]; exact h.1
      · rw [if_neg e2]; simp only [lookE]; rw [if_neg (by omega)]
    · rw [if_neg e]
      simp only [lookE, ih]
      by_cases e2 : j = k
      · rw [if_neg (by omega), if_pos e2, if_pos e2]
      · rw [if_neg e2, if_neg e2]
theorem keysE_upd (k : Int) (v : Value) : ∀ es : EL, keysE es → keysE (updE k v es)
  | [], _ => ⟨rfl, trivial⟩
  | x :: l, h => by
    unfold updE
    by_cases e : k = x.1
    · rw [if_pos e]; exact ⟨by rw [e]; exact h.1, h.2⟩
    · rw [if_neg e]
      refine ⟨?_, keysE_upd k v l h.2⟩
      rw [look_upd, if_neg (by omega)]; exact h.1
theorem keysE_del (k : Int) : ∀ es : EL, keysE es → keysE (delE k es)
  | [], _ => trivial
  | x :: l, h => by
    unfold delE
    by_cases e : k = x.1
    · rw [if_pos e]; exact h.2
    · rw [if_neg e]
      refine ⟨?_, keysE_del k l h.2⟩
      rw [look_del k x.1 l h.2]
      split
      · rfl
      · exact h.1
theorem upd_length (k : Int) (v : Value) : ∀ es : EL, (updE k v es).length = es.length + (if (lookE k es).isSome then 0 else 1)
  | [] => rfl
  | x :: l => by
    unfold updE lookE
    by_cases e : k = x.1
    · rw [if_pos e, if_pos e]; simp
    · rw [if_neg e, if_neg e]; simp only [List.length_cons]; rw [upd_length k v l]; omega
theorem del_length (k : Int) : ∀ es : EL, (delE k es).length + (if (lookE k es).isSome then 1 else 0) = es.length
  | [] => rfl
  | x :: l => by
    unfold delE lookE
    by_cases e : k = x.1
    · rw [if_pos e, if_pos e]; simp
    · rw [if_neg e, if_neg e]; simp only [List.length_cons]; rw [← del_length k l]; omega
section
variable {P : Program} {w w1 : World} {b : Nat} {es : EL}
theorem MapAt.lt (h : MapAt w b es) : b < w.heap.size := by
  obtain ⟨ms, c, hb, _⟩ := h
  exact (Array.getElem?_eq_some_iff.1 hb).1
theorem MapAt.move (h : MapAt w b es) (hb : w1.heap[b]? = w.heap[b]?) : MapAt w1 b es := by
  obtain ⟨ms, c, h1, h2⟩ := h
  exact ⟨ms, c, hb.trans h1, h2⟩
theorem MapAt.keep (h : MapAt w b es) (hB : Below w.heap.size w w1) : MapAt w1 b es := h.move (hB.block b h.lt)
theorem MapAt.only {p : Nat} (h : MapAt w b es) (ho : Only w w1 p) (hne : b ≠ p) : MapAt w1 b es := h.move (ho.block b h.lt (fun e => hne (by injection e)))
theorem MapAt.alloc (h : MapAt w b es) (o : Obj) : MapAt (w.alloc o) b es := h.move (Below.heap_alloc w o b h.lt)
theorem MapAt.drew (h : MapAt w b es) : MapAt w.drew b es := h
theorem MapAt.far (h : MapAt w b es) {p : Addr} (hp : b ≠ p.block) (u : Value) : MapAt (w.setCell p u) b es := h.move (Below.heap_setCell w p u b hp)
theorem MapAt.new (w : World) : MapAt (w.alloc (.map #[] 0)) w.heap.size [] := ⟨#[], 0, heap_alloc_new w _, rfl⟩
theorem MapAt.ne {g t : Nat} {cs : Array Value} {fr : Nat × Nat} (h : MapAt w b es) (hb : w.heap[g]? = some (.cells cs t fr)) : b ≠ g := by
  rintro rfl
  obtain ⟨ms, c, h1, _⟩ := h
  rw [hb] at h1
  cases h1
theorem isKey_i (k : Int) : IsKey (.int .i64) (.int .i64 k) := rfl
/-- What is found. -/
theorem MapAt.lookup {T K E : TypeId} (h : MapAt w b es) (hT : P.underlying T = some (.map K E)) (hK : P.underlying K = some (.int .i64)) {z : Value} (hz : (zeroValue E).run P w = .ok z w) (k : Int) (ok : Bool) :
    (Instr.lookup T (.map (some b)) (.int .i64 k) ok).run P w = .ok (if ok then .tuple #[(lookE k es).getD z, .bool (lookE k es).isSome] else (lookE k es).getD z) w := by
  obtain ⟨ms, c, hb, hv⟩ := h
  have hf := run_findKey (P := P) (w := w) (l := ms.toList) hK (findE k ms.toList es 0 hv)
  have hp := posE_look k es 0
  cases hq : posE k es 0 with
  | none =>
    rw [hq] at hp hf
    have hp : lookE k es = none := hp.symm
    cases ok <;> simp [Instr.lookup, run_underlying hT, Go.MapKept.run_getObj_map hb, run_checkKey hK (isKey_i k), hf, hz, hp, Result.andThen]
  | some x =>
    rw [hq] at hp hf
    have hp : lookE k es = some x.2 := hp.symm
    cases ok <;> simp [Instr.lookup, run_underlying hT, Go.MapKept.run_getObj_map hb, run_checkKey hK (isKey_i k), hf, hp, Result.andThen]
theorem only_setBlock {ms : Array MapEntry} {c : Nat} (hb : w.heap[b]? = some (.map ms c)) (o : Obj) : Only w (setBlock w b o) b :=
  ⟨rfl, rfl, rfl, by simp [setBlock], fun i _ hi => heap_setBlock_other hb _ (fun e => hi (by rw [e]))⟩
theorem MapAt.update {T K E : TypeId} (h : MapAt w b es) (hT : P.underlying T = some (.map K E)) (hK : P.underlying K = some (.int .i64)) (k : Int) (v : Value) :
    ∃ w', (Instr.mapUpdate T (.map (some b)) (.int .i64 k) v).run P w = .ok () w' ∧ MapAt w' b (updE k v es) ∧ Only w w' b := by
  obtain ⟨ms, c, hb, hv⟩ := h
  have hf := run_findKey (P := P) (w := w) (l := ms.toList) hK (findE k ms.toList es 0 hv)
  cases hq : posE k es 0 with
  | none =>
    rw [hq] at hf
    refine ⟨setBlock w b (.map (ms.push { key := .int .i64 k, val := v, born := c }) (c + 1)), ?_, ⟨_, _, heap_setBlock_same hb _, ?_⟩, only_setBlock hb _⟩
    · simp [Instr.mapUpdate, run_underlying hT, Go.MapKept.run_getObj_map hb, run_checkKey hK (isKey_i k), hf, run_setObj_map _ hb, Result.andThen, setBlock]
    · rw [updE_none k v es (posE_none k es 0 hq), Array.toList_push, List.map_append, List.map_append, hv]; rfl
  | some x =>
    rw [hq] at hf
    obtain ⟨j, v0⟩ := x
    obtain ⟨h1, h2⟩ := updE_at k v ms.toList es 0 j v0 hv (by rw [hq, Nat.zero_add])
    have h3 : ((ms[j]?).map (·.key)) = some (.int .i64 k) := by rw [← h2]; simp
    refine ⟨setBlock w b (.map (ms.modify j fun e => { e with key := .int .i64 k, val := v }) c), ?_, ⟨_, _, heap_setBlock_same hb _, ?_⟩, only_setBlock hb _⟩
    · simp [Instr.mapUpdate, run_underlying hT, Go.MapKept.run_getObj_map hb, run_checkKey hK (isKey_i k), hf, h3, run_keyThatStays (isKey_i k), run_setObj_map _ hb, Result.andThen, setBlock]
    · rw [Array.toList_modify]; exact h1
theorem MapAt.delete {T K E ty kt : TypeId} (h : MapAt w b es) (hT : P.underlying T = some (.map K E)) (hK : P.underlying K = some (.int .i64)) (k : Int) :
    ∃ w', (Builtin.delete_ #[T, kt] ty #[.map (some b), .int .i64 k]).run P w = .ok (.tuple #[]) w' ∧ MapAt w' b (delE k es) ∧ Only w w' b := by
  obtain ⟨ms, c, hb, hv⟩ := h
  have hf := run_findKey (P := P) (w := w) (l := ms.toList) hK (findE k ms.toList es 0 hv)
  cases hq : posE k es 0 with
  | none =>
    rw [hq] at hf
    refine ⟨setBlock w b (.map ms c), ?_, ⟨_, _, heap_setBlock_same hb _, ?_⟩, only_setBlock hb _⟩
    · simp [Builtin.delete_, run_underlying hT, Go.MapKept.run_getObj_map hb, run_checkKey hK (isKey_i k), hf, run_setObj_map _ hb, Result.andThen, setBlock]
    · rw [delE_none k es (posE_none k es 0 hq)]; exact hv
  | some x =>
    rw [hq] at hf
    obtain ⟨j, v0⟩ := x
    obtain ⟨h1, h2⟩ := delE_at k ms.toList es 0 j v0 hv (by rw [hq, Nat.zero_add])
    refine ⟨setBlock w b (.map (ms.eraseIdxIfInBounds j) c), ?_, ⟨_, _, heap_setBlock_same hb _, ?_⟩, only_setBlock hb _⟩
    · simp [Builtin.delete_, run_underlying hT, Go.MapKept.run_getObj_map hb, run_checkKey hK (isKey_i k), hf, run_setObj_map _ hb, Result.andThen, setBlock]
    · have : (ms.eraseIdxIfInBounds j).toList = ms.toList.eraseIdx j := by simp [Array.eraseIdxIfInBounds, show j < ms.size by simpa using h2]
      rw [this]; exact h1
theorem MapAt.len {T K E ty : TypeId} (h : MapAt w b es) (hT : P.underlying T = some (.map K E)) :
    (Builtin.len_ #[T] ty #[.map (some b)]).run P w = .ok (goInt es.length) w := by
  obtain ⟨ms, c, hb, hv⟩ := h
  have hl : ms.size = es.length := by have := congrArg List.length hv; simpa using this
  simp [Builtin.len_, run_underlying hT, Go.MapKept.run_getObj_map hb, hl, Result.andThen]
end
/-- 'm[k] = v', for the walk. -/
theorem wpList_mapUpdate_i {P : Program} {w : World} {ops : Array Oper} {rest : List Oper} {o : Oper} {a : Act} {Q : Exit → Act → World → Prop}
    (hg : o.guard = none) (m x v : Operand) (t K E : TypeId) (hop : o.op = Op.mapUpdate t m x v) (ht : P.underlying t = some (.map K E)) (hK : P.underlying K = some (.int .i64))
    (b : Nat) (es : EL) (hm : a.eval m = .map (some b)) (hown : MapAt w b es) (k : Int) (val : Value) (hx : a.eval x = .int .i64 k) (hv : a.eval v = val)
    (h : ∀ w', MapAt w' b (updE k val es) → Only w w' b → wpList P ops Q rest (a.put o.dst undef) w') :
    wpList P ops Q (o :: rest) a w := by
  refine wpList_plain hg fun K' hK' => ?_
  obtain ⟨w', hrun, r1, r2⟩ := hown.update ht hK k val
  unfold Oper.wp
  simp [execOp, hop, hm, hx, hv, hrun, Result.andThen]
  exact hK' _ _ (h w' r1 r2)
theorem step_mapUpdate_i {P : Program} {w : World} {o : Oper} {a : Act} {K' : Act → World → Prop} {Q : Exit → Act → World → Prop}
    (m x v : Operand) (t K E : TypeId) (hop : o.op = Op.mapUpdate t m x v) (ht : P.underlying t = some (.map K E)) (hK : P.underlying K = some (.int .i64))
    (b : Nat) (es : EL) (hm : a.eval m = .map (some b)) (hown : MapAt w b es) (k : Int) (val : Value) (hx : a.eval x = .int .i64 k) (hv : a.eval v = val)
    (h : ∀ w', MapAt w' b (updE k val es) → Only w w' b → K' (a.put o.dst undef) w') : Oper.wp P o a w K' Q := by
  obtain ⟨w', hrun, r1, r2⟩ := hown.update ht hK k val
  unfold Oper.wp
  simp [execOp, hop, hm, hx, hv, hrun, Result.andThen]
  exact h w' r1 r2
/-- 'delete(m, k)', for the walk. -/
theorem wpList_delete_i {P : Program} {w : World} {ops : Array Oper} {rest : List Oper} {o : Oper} {a : Act} {Q : Exit → Act → World → Prop}
    (hg : o.guard = none) (m x : Operand) (t kt K E : TypeId) (hop : o.op = .call { callee := .builtin .delete, args := #[m, x], argTypes := #[t, kt] }) (ht : P.underlying t = some (.map K E)) (hK : P.underlying K = some (.int .i64))
    (b : Nat) (es : EL) (hm : a.eval m = .map (some b)) (hown : MapAt w b es) (k : Int) (hx : a.eval x = .int .i64 k)
    (h : ∀ w', MapAt w' b (delE k es) → Only w w' b → wpList P ops Q rest (a.put o.dst (.tuple #[])) w') :
    wpList P ops Q (o :: rest) a w := by
  refine wpList_plain hg fun K' hK' => ?_
  obtain ⟨w', hrun, r1, r2⟩ := hown.delete (ty := o.type) (kt := kt) ht hK k
  unfold Oper.wp
  simp [execOp, hop, resolve, invoke, builtin, hm, hx, hrun, Result.andThen]
  exact hK' _ _ (h w' r1 r2)
end Go.Proofs.Ytknphhcppllpoaa.Hand
