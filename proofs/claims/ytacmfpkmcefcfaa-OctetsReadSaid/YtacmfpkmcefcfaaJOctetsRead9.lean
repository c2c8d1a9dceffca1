/- Parts of the proof for OctetsRead: BookR, BookW, BookA, BookAddI, BookAddE, Keep. -/
import Derived.Test.YtacmfpkmcefcfaaJOctetsRead8
import Derived.Test.YtacmfpkmcefcfaaJOctetsRead4
import Derived.Test.YtacmfpkmcefcfaaJOctetsRead5
section
namespace Go.Proofs.Ytacmfpkmcefcfaa.Hand
open Go.RowKit Go.Proofs.YtacmfpkmcefcfaaW.PrintWords Go.Proofs.YtacmfpkmcefcfaaW.PrintLast Go.Proofs.YtacmfpkmcefcfaaW.PrintMore Go.Proofs.Ytacmfpkmcefcfaa.A
set_option linter.unusedVariables false
set_option linter.unusedSimpArgs false
section
variable {α : Type} {d : Kd α} {e eL : Nat} {w0 w1 w w2 : World} {base i : Nat} {vs os : List Value} {L : List (List α)} {v cur cur2 O O2 V : Value} {l M ys : List α} {F G : Nat → List α → List α}
/-- What the lists show: for the law that looks at them. -/
def Shows (d : Kd α) (e eL : Nat) (w : World) (base : Nat) (V : Value) (vs : List Value) (L : List (List α)) (F : Nat → List α → List α) : Prop :=
  w.ownsRow base eL 1 V L.length vs ∧ ∀ (i : Nat) v l, vs[i]? = some v → L[i]? = some l → Sees d e w v (F i l)
theorem Shows.below (hK : Flat d) (h : Shows d e eL w base V vs L F) (hb : Below w.heap.size w w1) : Shows d e eL w1 base V vs L F :=
  ⟨own_move h.1 (fun k hk => hb.block k (own_lt h.1 k hk)), fun i v l hv hl => (h.2 i v l hv hl).below hK hb⟩
theorem Shows.fx {T B : Nat} (hK : Flat d) (h : Shows d e eL w base V vs L F) (hx : FxT T B w w1) (h1 : e ≠ T) (h2 : eL ≠ T) : Shows d e eL w1 base V vs L F :=
  ⟨hx.own h.1 h2, fun i v l hv hl => (h.2 i v l hv hl).fx hK hx h1⟩
theorem Shows.calls {n c : Nat} {A : Option Addr} (h : Shows d e eL w base (.slice A n c) vs L F) : n = (L.mapIdx F).length ∧ (L.mapIdx F).length ≤ c ∧ Kd.C (Kd.slice e d) w A (L.mapIdx F).length (L.mapIdx F) := by
  have hlen : (L.mapIdx F).length = L.length := List.length_mapIdx
  refine lists_C (eL := eL) (base := base) (vs := vs) (by rw [hlen]; exact h.1) (fun i v l hv hl => ?_)
  rw [List.getElem?_mapIdx] at hl
  obtain ⟨l0, hl0, rfl⟩ := Option.map_eq_some_iff.1 hl
  exact (h.2 i v l0 hv hl0).reads
/-- One list is being grown. -/
structure Cur (d : Kd α) (e : Nat) (w1 w : World) (base : Nat) (v cur : Value) (M l : List α) : Prop where
  r : d.R e w base (fun _ => True) cur l
  g : w1.grownBy w v.ownBlock
  at_ : cur.ownBlock = v.ownBlock ∨ ∀ k, cur.ownBlock = some k → w1.heap.size ≤ k
  s : Sees d e w v M
  len : M.length ≤ l.length
theorem Cur.start (h : d.R e w base (fun _ => True) v M) : Cur d e w w base v v M M := ⟨h, World.grownBy.refl w _, .inl rfl, Sees.of_R h, Nat.le_refl _⟩
theorem Cur.below (hK : Flat d) (h : Cur d e w1 w base v cur M l) (hb : Below w.heap.size w w2) : Cur d e w1 w2 base v cur M l :=
  ⟨Kd.R_below h.r hb, ⟨hb.os.trans h.g.os, hb.tape.trans h.g.tape, hb.output.trans h.g.output, Nat.le_trans h.g.size hb.size, fun k hk hn => (hb.block k (Nat.lt_of_lt_of_le hk h.g.size)).trans (h.g.block k hk hn)⟩, h.at_, h.s.below hK hb, h.len⟩
theorem Cur.more (hK : Flat d) (h : Cur d e w1 w base v cur M l) (hr : d.R e w2 base (fun _ => True) cur2 (l ++ ys)) (hg : w.grownBy w2 cur.ownBlock) (hat : cur2.ownBlock = cur.ownBlock ∨ ∃ b, cur2.ownBlock = some b ∧ w.heap.size ≤ b) (hk : Kept e w w2 cur (l.length * d.sz)) : Cur d e w1 w2 base v cur2 M (l ++ ys) := by
  refine ⟨hr, ⟨hg.os.trans h.g.os, hg.tape.trans h.g.tape, hg.output.trans h.g.output, Nat.le_trans h.g.size hg.size, fun k hk hn => (hg.block k (Nat.lt_of_lt_of_le hk h.g.size) (fun q => ?_)).trans (h.g.block k hk hn)⟩, ?_, h.s.kept hK hg hk (Nat.mul_le_mul_right _ h.len), by have := h.len; rw [List.length_append]; omega⟩
  · rcases h.at_ with ha | ha
    · exact hn (q.trans ha)
    · have := ha k q.symm; omega
  · rcases hat with hat | ⟨b, hb, hle⟩
    · rw [hat]; exact h.at_
    · right
      intro k hk'
      rw [hb] at hk'
      injection hk' with hk'
      have := h.g.size
      omega
/-- So many lists are grown. -/
structure Grown (d : Kd α) (e eL : Nat) (w0 w : World) (base : Nat) (O : Value) (vs os : List Value) (L : List (List α)) (F G : Nat → List α → List α) (i : Nat) : Prop where
  hO : w.ownsRow w0.heap.size eL 1 O i os
  fx : FxT e base w0 w
  lt : ∀ (j : Nat) v k, vs[j]? = some v → v.ownBlock = some k → k < w0.heap.size ∧ base ≤ k ∧ ∃ cs, w0.heap[k]? = some (.cells cs e (0, 0))
  sees : ∀ (j : Nat) v l, vs[j]? = some v → L[j]? = some l → Sees d e w v (F j l)
  rest : ∀ (j : Nat) v l, i ≤ j → vs[j]? = some v → L[j]? = some l → d.R e w base (fun _ => True) v (F j l)
  outs : ∀ (j : Nat) v l, os[j]? = some v → L[j]? = some l → d.R e w base (fun _ => True) v (G j l) ∧ ∀ k, v.ownBlock = some k → w0.heap.size ≤ k ∨ ∃ x, vs[j]? = some x ∧ x.ownBlock = some k
theorem Shelf.grown (h : Shelf d e eL w base V vs L F) : Grown d e eL w w base (.slice none 0 0) vs [] L F G 0 := by
  refine ⟨World.ownsRow_nil w _ _ 1, FxT.refl _ _ _, fun j v k hv hk => ?_, fun j v l hv hl => Sees.of_R (h.rv.2 j v l hv hl), fun j v l _ hv hl => h.rv.2 j v l hv hl, fun j v l hv => by simp at hv⟩
  have hj : j < L.length := by rw [← h.rv.1]; exact (List.getElem?_eq_some_iff.1 hv).1
  have hr := h.rv.2 j v _ hv (List.getElem?_eq_getElem hj)
  exact ⟨Kd.R_lt hr k hk, Kd.R_base hr k hk, Kd.R_typed hr k hk⟩
/-- The next list has grown, and is kept among the grown ones. -/
theorem Grown.next (hE : d.E = []) (hK : Flat d) (hne : eL ≠ e) (hp : vs.Pairwise NeRow) (hb : base ≤ w0.heap.size) (h : Grown d e eL w0 w1 base O vs os L F G i) (hv : vs[i]? = some v) (hl : L[i]? = some l) (c : Cur d e w1 w base v cur (F i l) (G i l))
    (hO2 : w2.ownsRow w0.heap.size eL 1 O2 (i + 1) (os ++ [cur])) (hg : w.grownBy w2 O.ownBlock) : Grown d e eL w0 w2 base O2 vs (os ++ [cur]) L F G (i + 1) := by
  have z0 : w0.heap.size ≤ w1.heap.size := h.fx.1.size
  have z1 : w1.heap.size ≤ w.heap.size := c.g.size
  have hlen : os.length = i := by have := h.hO.1; omega
  have hvb : ∀ k, v.ownBlock = some k → k < w0.heap.size ∧ base ≤ k ∧ ∃ cs, w0.heap[k]? = some (.cells cs e (0, 0)) := fun k hk => h.lt i v k hv hk
  have hOb : ∀ k, O.ownBlock = some k → w0.heap.size ≤ k := fun k hk => own_base h.hO k hk
  -- blocks below the first world's end, but v's
  have old : ∀ k, k < w0.heap.size → some k ≠ v.ownBlock → w2.heap[k]? = w1.heap[k]? := fun k hk hn => (hg.block k (by omega) (fun q => by have := hOb k q.symm; omega)).trans (c.g.block k (by omega) hn)
  have new : ∀ k, w0.heap.size ≤ k → k < w1.heap.size → some k ≠ O.ownBlock → w2.heap[k]? = w1.heap[k]? := fun k hk hk1 hn => (hg.block k (by omega) hn).trans (c.g.block k hk1 (fun q => by have := (hvb k q.symm).1; omega))
  have hOw : w.ownsRow w0.heap.size eL 1 O i os := own_move h.hO (fun k hk => c.g.block k (own_lt h.hO k hk) (fun q => by have := (hvb k q.symm).1; have := hOb k hk; omega))
  refine ⟨hO2, ?_, h.lt, fun j x y hx hy => ?_, fun j x y hj hx hy => ?_, fun j x y hx hy => ?_⟩
  · -- only blocks of the one type
    refine ⟨⟨hg.os.trans (c.g.os.trans h.fx.1.os), hg.tape.trans (c.g.tape.trans h.fx.1.tape), hg.output.trans (c.g.output.trans h.fx.1.output), by have := hg.size; omega, fun k hk => ?_⟩, fun k hk hc => ?_⟩
    · exact (old k (by omega) (fun q => by have := (hvb k q.symm).2.1; omega)).trans (h.fx.1.block k hk)
    · exact (old k hk (fun q => by obtain ⟨cs, hcs⟩ := (hvb k q.symm).2.2; exact hc cs hcs)).trans (h.fx.2 k hk hc)
  · by_cases hj : j = i
    · subst hj
      rw [hv] at hx; rw [hl] at hy
      injection hx with hx; injection hy with hy
      subst hx; subst hy
      exact c.s.move hK (fun k hk => hg.block k (c.s.lt hk) (fun q => by have := (hvb k hk).1; have := hOb k q.symm; omega))
    · refine (h.sees j x y hx hy).move hK (fun k hk => old k (h.lt j x k hx hk).1 (fun q => ne_of_pair hp hv hx hj k q.symm hk))
  · refine R_moved hE (h.rest j x y (by omega) hx hy) (fun k hk => old k (h.lt j x k hx hk).1 (fun q => ne_of_pair hp hv hx (by omega) k q.symm hk))
  · by_cases hj : j < os.length
    · rw [List.getElem?_append_left hj] at hx
      obtain ⟨hr, ho⟩ := h.outs j x y hx hy
      refine ⟨R_moved hE hr (fun k hk => ?_), ho⟩
      rcases ho k hk with hk0 | ⟨x', hx', hk'⟩
      · refine new k hk0 (Kd.R_lt hr k hk) (fun q => ?_)
        obtain ⟨cs, hcs⟩ := own_typed h.hO k q.symm
        obtain ⟨cs', hcs'⟩ := Kd.R_typed hr k hk
        rw [hcs] at hcs'; injection hcs' with hcs'; injection hcs' with _ hcs'; exact hne hcs'
      · exact old k (h.lt j x' k hx' hk').1 (fun q => ne_of_pair hp hv hx' (by omega) k q.symm hk')
    · rw [List.getElem?_append_right (by omega)] at hx
      have hji : j = i := by
        rcases Nat.eq_zero_or_pos (j - os.length) with h0 | h0
        · omega
        · rw [List.getElem?_eq_none (by simp; omega)] at hx; cases hx
      subst hji
      rw [hlen, Nat.sub_self] at hx
      rw [hl] at hy
      injection hx with hx; injection hy with hy
      subst hx; subst hy
      refine ⟨R_moved hE c.r (fun k hk => hg.block k (Kd.R_lt c.r k hk) (fun q => ?_)), fun k hk => ?_⟩
      · obtain ⟨cs, hcs⟩ := own_typed hOw k q.symm
        obtain ⟨cs', hcs'⟩ := Kd.R_typed c.r k hk
        rw [hcs] at hcs'; injection hcs' with hcs'; injection hcs' with _ hcs'; exact hne hcs'
      · rcases c.at_ with ha | ha
        · exact .inr ⟨v, hv, by rw [← ha]; exact hk⟩
        · have := ha k hk; exact .inl (by omega)
theorem Grown.O_at (h : Grown d e eL w0 w1 base O vs os L F G i) (hv : vs[i]? = some v) (c : Cur d e w1 w base v cur M l) : w.ownsRow w0.heap.size eL 1 O i os ∧ w0.heap.size ≤ w.heap.size :=
  ⟨own_move h.hO (fun k hk => c.g.block k (own_lt h.hO k hk) (fun q => by have := (h.lt i v k hv q.symm).1; have := own_base h.hO k hk; omega)), Nat.le_trans h.fx.1.size c.g.size⟩
theorem Grown.shows (hV : w0.ownsRow base eL 1 V L.length vs) (hne : eL ≠ e) (h : Grown d e eL w0 w base O vs os L F G L.length) : Shows d e eL w w0.heap.size O os L G ∧ Shows d e eL w base V vs L F ∧ FxT e base w0 w :=
  ⟨⟨h.hO, fun j v l hv hl => Sees.of_R (h.outs j v l hv hl).1⟩, ⟨h.fx.own hV hne, fun j v l hv hl => h.sees j v l hv hl⟩, h.fx⟩
end
end Go.Proofs.Ytacmfpkmcefcfaa.Hand
end
section
namespace Go.Proofs.Ytacmfpkmcefcfaa.Hand
open Go.RowKit Go.Proofs.YtacmfpkmcefcfaaW.PrintWords Go.Proofs.YtacmfpkmcefcfaaW.PrintLast Go.Proofs.YtacmfpkmcefcfaaW.PrintMore Go.Proofs.Ytacmfpkmcefcfaa.A
set_option linter.unusedVariables false
set_option linter.unusedSimpArgs false
attribute [local go_sem] max2_int min2_int max_two min_two max_three min_three max_four min_four
theorem marks_app0 {α : Type} (mk : Nat → Nat → α) (i n m : Nat) : marks mk i 0 n ++ marks mk i n m = marks mk i 0 (n + m) := by rw [marks_app, Nat.zero_add]
theorem ginfoSpans : (Try.prog.info? 119).map (fun i => (i.zero, i.size, i.bytes)) = some (some (.agg #[.int .i64 0, .int .i64 0]), k119.sz, 16) := by kernel_rfl
theorem ginfoLSpans : (Try.prog.info? 128).map (fun i => (i.zero, i.size, i.bytes)) = some (some (.slice none 0 0), 1, 24) := by kernel_rfl
theorem flatSpans : Flat k119 := fun w w1 x cs h => by obtain rfl := k119_open h; exact k119_mk _ _
set_option maxRecDepth 100000 in
set_option maxHeartbeats 3200000 in
theorem grow_Spans (g base : Nat) (VI UI VE UE : Value) (V U : Value) (vs : List Value) (L : List (List S119)) (w : World) (hb : Blk w g 60 (bookC VI UI V U VE UE)) (hS : Shelf k119 119 128 w base V vs L (fun i l => marks mkSpans i 0 l.length))
    (hL : L.length ≤ 250) (hB : ∀ (i : Nat) l, L[i]? = some l → l.length ≤ 1000000) (hbase : base ≤ w.heap.size) :
    Calls Try.prog 81 #[.pointer (some ⟨g, 0, none⟩)] w fun e w' => ∃ O, e = .returned O ∧ ∃ os, Shows k119 119 128 w' w.heap.size O os L (fun i l => marks mkSpans i 0 (l.length + 72)) ∧ Shows k119 119 128 w' base V vs L (fun i l => marks mkSpans i 0 l.length) ∧ FxT 119 base w w' := by
  obtain ⟨A, n, rfl⟩ := row_slice hS.hV
  have HB := Aside0.mk hb
  have HG := Aside0.mk (hS.grown (G := fun i l => marks mkSpans i 0 (l.length + 72)))
  have HV := Aside0.mk hS.hV
  have HP := Aside0.mk hS.ne
  have HBd := Aside0.mk hB
  have HL := Aside0.mk hL
  have Hbase := Aside0.mk hbase
  have hvl := Aside0.mk hS.rv.1
  clear hb hS hB hL hbase
  go_enter Try.func81, Try.ntmps81
  go_wp2_with fail
  go_loopg [3, 4] L.length (fun kq o v wq => ∃ (i : Nat) (os : List Value), i + kq = L.length ∧ v = .int .i64 (i : Int) ∧ Aside0 (Grown k119 119 128 w wq base o vs os L (fun i l => marks mkSpans i 0 l.length) (fun i l => marks mkSpans i 0 (l.length + 72)) i))
  case atStart => exact ⟨0, [], by omega, rfl, HG⟩
  case round =>
    clear HG
    obtain ⟨i, os, hi, rfl, HG⟩ := hrel
    obtain ⟨Ao, co, rfl⟩ := row_slice HG.out.hO
    have hb1 := HG.out.fx.blk HB.out (by decide)
    have c4 := hb1.cell (i := 4) (v := .slice A L.length n) rfl
    clear hb1
    by_cases hlt : i < L.length
    · have hlt' : (i : Int) < (L.length : Int) := by omega
      have hi' : (i : Int) ≤ 250 := by have := HL.out; omega
      have hi2 : i ≤ 250 := by omega
      obtain ⟨kk, rfl⟩ : ∃ z, gk = z + 1 := ⟨gk - 1, by omega⟩
      obtain ⟨l, hl⟩ : ∃ l, L[i]? = some l := ⟨_, List.getElem?_eq_getElem hlt⟩
      have hbd := Aside0.mk (HBd.out i l hl)
      obtain ⟨v, hv⟩ : ∃ v, vs[i]? = some v := ⟨_, List.getElem?_eq_getElem (by rw [hvl.out]; exact hlt)⟩
      have hr0 := HG.out.rest i v l (Nat.le_refl _) hv hl
      obtain ⟨gv, cV, hVe, _, _, _, hcells⟩ := row_cells (own_move HV.out (w1 := wr) (fun q hq => HG.out.fx.2 q (own_lt HV.out q hq) (fun cs hc => by
        obtain ⟨cs', hc'⟩ := own_typed HV.out q hq
        rw [hc'] at hc; injection hc with hc; injection hc with _ hc; exact absurd hc (by decide)))) (by omega)
      have hcell := hcells i v hv
      injection hVe with q1 q2 q3
      subst q1; subst q3
      have HC := Aside0.mk (Cur.start hr0)
      have Hbq : Aside0 (base ≤ wr.heap.size) := ⟨HG.out.fx.base_le Hbase.out⟩
      obtain ⟨Av, cv, hve, _, _⟩ := Kd.R_reads hr0
      rw [marks_length] at hve
      subst hve
      have HVi := Aside0.mk hv
      clear hr0 hcells hv
      go_wp2_with fail
      go_loopg [5, 6] 12 (fun kq c v wq => ∃ k N : Nat, k + kq = 12 ∧ Aside0 (N = l.length + k) ∧ v = .int .i64 (k : Int) ∧ Aside0 (Cur k119 119 wr wq base (.slice Av l.length cv) c (marks mkSpans i 0 l.length) (marks mkSpans i 0 N)) ∧ Aside0 (base ≤ wq.heap.size))
      case atStart => exact ⟨0, l.length, by omega, ⟨rfl⟩, rfl, HC, Hbq⟩
      case round =>
        clear HC Hbq
        obtain ⟨k, N, hk, hN, rfl, HC, Hbq⟩ := hrel
        obtain ⟨A5, c5, h5, _, _⟩ := Kd.R_reads HC.out.r
        rw [marks_length] at h5
        subst h5
        by_cases hk1 : k < 12
        · have hk2 : (k : Int) < 12 := by omega
          obtain ⟨kz, rfl⟩ : ∃ z, gk = z + 1 := ⟨gk - 1, by omega⟩
          go_wp2_with fail
          refine (emulsionbook_markSpans.calls 2 (i : Int) (N : Int) 1 _ _ (markSpans_f i N 1 2 (by omega) (by omega) (by have := hN.out; have := hbd.out; omega))).mono ?_
          rintro e w6 ⟨vm, rfl, hrm, hbm⟩
          obtain ⟨Am, cm, hvm, hcm, _⟩ := Kd.R_reads hrm
          rw [marks_length] at hvm hcm
          subst hvm
          obtain ⟨gm, hAm, _, _, hCm⟩ := row_at0 hrm (by rw [marks_length]; omega)
          subst hAm
          rw [marks_length] at hCm
          have HMc := Aside0.mk hCm
          replace HC := Aside0.mk (HC.out.below flatSpans hbm)
          replace Hbq := Aside0.mk (Nat.le_trans Hbq.out hbm.size)
          clear hrm hbm hcm hCm
          go_wp2_with (first | ((with_reducible refine gate_builtin (b := .append) (xs := #[.tmp 27, .tmp 31]) rfl ?_); at_builtin; refine Kd.R_append_kept k119 base rfl (.tmp 27) (.tmp 31) 128 119 (.agg #[.int .i64 0, .int .i64 0]) 16 rfl Try.underlying128 ginfoSpans rfl (by decide) (by decide) (.slice A5 N c5) (marks mkSpans i 0 N) (marks mkSpans i N 1) ⟨gm, 0, none⟩ 1 cm (fun _ => True) (fun _ => False) rfl rfl HC.out.r HMc.out (fun x cs h => by obtain rfl := k119_open h; exact k119_mkM _ _ _ _) (fun _ h => h.elim) (fun _ _ => trivial) (Below.refl _ _) Hbq.out (by rw [marks_length]; have := hN.out; have := hbd.out; omega) ?_; intro v7 w7 hr7 hb7 hg7 hat7 hk7; have HC7 := Aside0.mk (HC.out.more flatSpans hr7 hg7 hat7 hk7); have Hbq7 := Aside0.mk (Nat.le_trans Hbq.out hg7.size); clear hr7 hb7 hg7 hat7 hk7; rw [marks_app0] at HC7))
          go_roundg kz
          case measure => omega
          case rel => exact ⟨k + 1, N + 1, by omega, ⟨by have := hN.out; omega⟩, by go_num, HC7, Hbq7⟩
        · obtain rfl : k = 12 := by omega
          go_wp2_with fail
          refine (emulsionbook_markSpans.calls 61 (i : Int) (N : Int) 60 _ _ (markSpans_f i N 60 61 (by omega) (by omega) (by have := hN.out; have := hbd.out; omega))).mono ?_
          rintro e w6 ⟨vm, rfl, hrm, hbm⟩
          obtain ⟨Am, cm, hvm, hcm, _⟩ := Kd.R_reads hrm
          rw [marks_length] at hvm hcm
          subst hvm
          obtain ⟨gm, hAm, _, _, hCm⟩ := row_at0 hrm (by rw [marks_length]; omega)
          subst hAm
          rw [marks_length] at hCm
          have HMc := Aside0.mk hCm
          replace HC := Aside0.mk (HC.out.below flatSpans hbm)
          replace Hbq := Aside0.mk (Nat.le_trans Hbq.out hbm.size)
          clear hrm hbm hcm hCm
          go_wp2_with (first | ((with_reducible refine gate_builtin (b := .append) (xs := #[.tmp 34, .tmp 38]) rfl ?_); at_builtin; refine Kd.R_append_kept k119 base rfl (.tmp 34) (.tmp 38) 128 119 (.agg #[.int .i64 0, .int .i64 0]) 16 rfl Try.underlying128 ginfoSpans rfl (by decide) (by decide) (.slice A5 N c5) (marks mkSpans i 0 N) (marks mkSpans i N 60) ⟨gm, 0, none⟩ 60 cm (fun _ => True) (fun _ => False) rfl rfl HC.out.r HMc.out (fun x cs h => by obtain rfl := k119_open h; exact k119_mkM _ _ _ _) (fun _ h => h.elim) (fun _ _ => trivial) (Below.refl _ _) Hbq.out (by rw [marks_length]; have := hN.out; have := hbd.out; omega) ?_; intro v7 w7 hr7 hb7 hg7 hat7 hk7; have HC7 := Aside0.mk (HC.out.more flatSpans hr7 hg7 hat7 hk7); have Hbq7 := Aside0.mk (Nat.le_trans Hbq.out hg7.size); clear hr7 hb7 hg7 hat7 hk7; rw [marks_app0] at HC7; obtain ⟨A8, c8, h8, _, _⟩ := Kd.R_reads HC7.out.r; rw [marks_length] at h8; subst h8; have HO7 := Aside0.mk (HG.out.O_at HVi.out HC7.out)) | ((with_reducible refine gate_builtin (b := .append) (xs := #[.tmp 33, .tmp 40]) rfl ?_); at_builtin; refine print_append_cells (w0 := w7) w.heap.size rfl (.tmp 33) (.tmp 40) 54 128 (.slice none 0 0) 1 24 rfl Try.underlying54 ginfoLSpans rfl (by decide) (by decide) (.slice Ao i co) i os [.slice A8 (N + 60) c8] rfl rfl rfl (by intro u hu; rw [List.mem_singleton.1 hu]; rfl) HO7.out.1 (Below.refl _ _) HO7.out.2 (by omega) ?_; intro O9 w9 hO9 hb9 hg9 hat9; have hNe : N + 60 = l.length + 72 := (by have := hN.out; omega); rw [hNe] at HC7 hO9; have HG9 := Aside0.mk (HG.out.next rfl flatSpans (by decide) HP.out Hbase.out HVi.out hl HC7.out hO9 hg9); clear hNe hO9 hb9 hg9 hat9))
          go_roundg kk
          case measure => omega
          case rel => exact ⟨i + 1, _, by omega, by go_num, HG9⟩
    · obtain rfl : i = L.length := by omega
      have hlt' : ¬ (L.length : Int) < (L.length : Int) := by omega
      go_wp2_with fail
      go_ret
      have h := HG.out.shows HV.out (by decide)
      exact ⟨_, rfl, ⟨_, h.1⟩, h.2⟩
theorem ginfoInts : (Try.prog.info? 3).map (fun i => (i.zero, i.size, i.bytes)) = some (some (.int .i64 0), (Kd.int .i64).sz, 8) := by kernel_rfl
theorem ginfoLInts : (Try.prog.info? 75).map (fun i => (i.zero, i.size, i.bytes)) = some (some (.slice none 0 0), 1, 24) := by kernel_rfl
theorem flatInts : Flat (Kd.int .i64) := fun w w1 x cs h => h
set_option maxRecDepth 100000 in
set_option maxHeartbeats 3200000 in
theorem grow_Ints (g base : Nat) (VS US VE UE : Value) (V U : Value) (vs : List Value) (L : List (List Int)) (w : World) (hb : Blk w g 60 (bookC V U VS US VE UE)) (hS : Shelf (Kd.int .i64) 3 75 w base V vs L (fun i l => marks mkInts i 0 l.length))
    (hL : L.length ≤ 250) (hB : ∀ (i : Nat) l, L[i]? = some l → l.length ≤ 1000000) (hbase : base ≤ w.heap.size) :
    Calls Try.prog 80 #[.pointer (some ⟨g, 0, none⟩)] w fun e w' => ∃ O, e = .returned O ∧ ∃ os, Shows (Kd.int .i64) 3 75 w' w.heap.size O os L (fun i l => marks mkInts i 0 (l.length + 72)) ∧ Shows (Kd.int .i64) 3 75 w' base V vs L (fun i l => marks mkInts i 0 l.length) ∧ FxT 3 base w w' := by
  obtain ⟨A, n, rfl⟩ := row_slice hS.hV
  have HB := Aside0.mk hb
  have HG := Aside0.mk (hS.grown (G := fun i l => marks mkInts i 0 (l.length + 72)))
  have HV := Aside0.mk hS.hV
  have HP := Aside0.mk hS.ne
  have HBd := Aside0.mk hB
  have HL := Aside0.mk hL
  have Hbase := Aside0.mk hbase
  have hvl := Aside0.mk hS.rv.1
  clear hb hS hB hL hbase
  go_enter Try.func80, Try.ntmps80
  go_wp2_with fail
  go_loopg [3, 4] L.length (fun kq o v wq => ∃ (i : Nat) (os : List Value), i + kq = L.length ∧ v = .int .i64 (i : Int) ∧ Aside0 (Grown (Kd.int .i64) 3 75 w wq base o vs os L (fun i l => marks mkInts i 0 l.length) (fun i l => marks mkInts i 0 (l.length + 72)) i))
  case atStart => exact ⟨0, [], by omega, rfl, HG⟩
  case round =>
    clear HG
    obtain ⟨i, os, hi, rfl, HG⟩ := hrel
    obtain ⟨Ao, co, rfl⟩ := row_slice HG.out.hO
    have hb1 := HG.out.fx.blk HB.out (by decide)
    have c4 := hb1.cell (i := 2) (v := .slice A L.length n) rfl
    clear hb1
    by_cases hlt : i < L.length
    · have hlt' : (i : Int) < (L.length : Int) := by omega
      have hi' : (i : Int) ≤ 250 := by have := HL.out; omega
      have hi2 : i ≤ 250 := by omega
      obtain ⟨kk, rfl⟩ : ∃ z, gk = z + 1 := ⟨gk - 1, by omega⟩
      obtain ⟨l, hl⟩ : ∃ l, L[i]? = some l := ⟨_, List.getElem?_eq_getElem hlt⟩
      have hbd := Aside0.mk (HBd.out i l hl)
      obtain ⟨v, hv⟩ : ∃ v, vs[i]? = some v := ⟨_, List.getElem?_eq_getElem (by rw [hvl.out]; exact hlt)⟩
      have hr0 := HG.out.rest i v l (Nat.le_refl _) hv hl
      obtain ⟨gv, cV, hVe, _, _, _, hcells⟩ := row_cells (own_move HV.out (w1 := wr) (fun q hq => HG.out.fx.2 q (own_lt HV.out q hq) (fun cs hc => by
        obtain ⟨cs', hc'⟩ := own_typed HV.out q hq
        rw [hc'] at hc; injection hc with hc; injection hc with _ hc; exact absurd hc (by decide)))) (by omega)
      have hcell := hcells i v hv
      injection hVe with q1 q2 q3
      subst q1; subst q3
      have HC := Aside0.mk (Cur.start hr0)
      have Hbq : Aside0 (base ≤ wr.heap.size) := ⟨HG.out.fx.base_le Hbase.out⟩
      obtain ⟨Av, cv, hve, _, _⟩ := Kd.R_reads hr0
      rw [marks_length] at hve
      subst hve
      have HVi := Aside0.mk hv
      clear hr0 hcells hv
      go_wp2_with fail
      go_loopg [5, 6] 12 (fun kq c v wq => ∃ k N : Nat, k + kq = 12 ∧ Aside0 (N = l.length + k) ∧ v = .int .i64 (k : Int) ∧ Aside0 (Cur (Kd.int .i64) 3 wr wq base (.slice Av l.length cv) c (marks mkInts i 0 l.length) (marks mkInts i 0 N)) ∧ Aside0 (base ≤ wq.heap.size))
      case atStart => exact ⟨0, l.length, by omega, ⟨rfl⟩, rfl, HC, Hbq⟩
      case round =>
        clear HC Hbq
        obtain ⟨k, N, hk, hN, rfl, HC, Hbq⟩ := hrel
        obtain ⟨A5, c5, h5, _, _⟩ := Kd.R_reads HC.out.r
        rw [marks_length] at h5
        subst h5
        by_cases hk1 : k < 12
        · have hk2 : (k : Int) < 12 := by omega
          obtain ⟨kz, rfl⟩ : ∃ z, gk = z + 1 := ⟨gk - 1, by omega⟩
          go_wp2_with fail
          refine (emulsionbook_markInts.calls 2 (i : Int) (N : Int) 1 _ _ (markInts_f i N 1 2 (by omega) (by omega) (by have := hN.out; have := hbd.out; omega))).mono ?_
          rintro e w6 ⟨vm, rfl, hrm, hbm⟩
          obtain ⟨Am, cm, hvm, hcm, _⟩ := Kd.R_reads hrm
          rw [marks_length] at hvm hcm
          subst hvm
          obtain ⟨gm, hAm, _, _, hCm⟩ := row_at0 hrm (by rw [marks_length]; omega)
          subst hAm
          rw [marks_length] at hCm
          have HMc := Aside0.mk hCm
          replace HC := Aside0.mk (HC.out.below flatInts hbm)
          replace Hbq := Aside0.mk (Nat.le_trans Hbq.out hbm.size)
          clear hrm hbm hcm hCm
          go_wp2_with (first | ((with_reducible refine gate_builtin (b := .append) (xs := #[.tmp 27, .tmp 31]) rfl ?_); at_builtin; refine Kd.R_append_kept (Kd.int .i64) base rfl (.tmp 27) (.tmp 31) 75 3 (.int .i64 0) 8 rfl Try.underlying75 ginfoInts rfl (by decide) (by decide) (.slice A5 N c5) (marks mkInts i 0 N) (marks mkInts i N 1) ⟨gm, 0, none⟩ 1 cm (fun _ => True) (fun _ => False) rfl rfl HC.out.r HMc.out (fun x cs h => h) (fun _ h => h.elim) (fun _ _ => trivial) (Below.refl _ _) Hbq.out (by rw [marks_length]; have := hN.out; have := hbd.out; omega) ?_; intro v7 w7 hr7 hb7 hg7 hat7 hk7; have HC7 := Aside0.mk (HC.out.more flatInts hr7 hg7 hat7 hk7); have Hbq7 := Aside0.mk (Nat.le_trans Hbq.out hg7.size); clear hr7 hb7 hg7 hat7 hk7; rw [marks_app0] at HC7))
          go_roundg kz
          case measure => omega
          case rel => exact ⟨k + 1, N + 1, by omega, ⟨by have := hN.out; omega⟩, by go_num, HC7, Hbq7⟩
        · obtain rfl : k = 12 := by omega
          go_wp2_with fail
          refine (emulsionbook_markInts.calls 61 (i : Int) (N : Int) 60 _ _ (markInts_f i N 60 61 (by omega) (by omega) (by have := hN.out; have := hbd.out; omega))).mono ?_
          rintro e w6 ⟨vm, rfl, hrm, hbm⟩
          obtain ⟨Am, cm, hvm, hcm, _⟩ := Kd.R_reads hrm
          rw [marks_length] at hvm hcm
          subst hvm
          obtain ⟨gm, hAm, _, _, hCm⟩ := row_at0 hrm (by rw [marks_length]; omega)
          subst hAm
          rw [marks_length] at hCm
          have HMc := Aside0.mk hCm
          replace HC := Aside0.mk (HC.out.below flatInts hbm)
          replace Hbq := Aside0.mk (Nat.le_trans Hbq.out hbm.size)
          clear hrm hbm hcm hCm
          go_wp2_with (first | ((with_reducible refine gate_builtin (b := .append) (xs := #[.tmp 34, .tmp 38]) rfl ?_); at_builtin; refine Kd.R_append_kept (Kd.int .i64) base rfl (.tmp 34) (.tmp 38) 75 3 (.int .i64 0) 8 rfl Try.underlying75 ginfoInts rfl (by decide) (by decide) (.slice A5 N c5) (marks mkInts i 0 N) (marks mkInts i N 60) ⟨gm, 0, none⟩ 60 cm (fun _ => True) (fun _ => False) rfl rfl HC.out.r HMc.out (fun x cs h => h) (fun _ h => h.elim) (fun _ _ => trivial) (Below.refl _ _) Hbq.out (by rw [marks_length]; have := hN.out; have := hbd.out; omega) ?_; intro v7 w7 hr7 hb7 hg7 hat7 hk7; have HC7 := Aside0.mk (HC.out.more flatInts hr7 hg7 hat7 hk7); have Hbq7 := Aside0.mk (Nat.le_trans Hbq.out hg7.size); clear hr7 hb7 hg7 hat7 hk7; rw [marks_app0] at HC7; obtain ⟨A8, c8, h8, _, _⟩ := Kd.R_reads HC7.out.r; rw [marks_length] at h8; subst h8; have HO7 := Aside0.mk (HG.out.O_at HVi.out HC7.out)) | ((with_reducible refine gate_builtin (b := .append) (xs := #[.tmp 33, .tmp 40]) rfl ?_); at_builtin; refine print_append_cells (w0 := w7) w.heap.size rfl (.tmp 33) (.tmp 40) 53 75 (.slice none 0 0) 1 24 rfl Try.underlying53 ginfoLInts rfl (by decide) (by decide) (.slice Ao i co) i os [.slice A8 (N + 60) c8] rfl rfl rfl (by intro u hu; rw [List.mem_singleton.1 hu]; rfl) HO7.out.1 (Below.refl _ _) HO7.out.2 (by omega) ?_; intro O9 w9 hO9 hb9 hg9 hat9; have hNe : N + 60 = l.length + 72 := (by have := hN.out; omega); rw [hNe] at HC7 hO9; have HG9 := Aside0.mk (HG.out.next rfl flatInts (by decide) HP.out Hbase.out HVi.out hl HC7.out hO9 hg9); clear hNe hO9 hb9 hg9 hat9))
          go_roundg kk
          case measure => omega
          case rel => exact ⟨i + 1, _, by omega, by go_num, HG9⟩
    · obtain rfl : i = L.length := by omega
      have hlt' : ¬ (L.length : Int) < (L.length : Int) := by omega
      go_wp2_with fail
      go_ret
      have h := HG.out.shows HV.out (by decide)
      exact ⟨_, rfl, ⟨_, h.1⟩, h.2⟩
theorem ginfoExtents : (Try.prog.info? 96).map (fun i => (i.zero, i.size, i.bytes)) = some (some (.agg #[.int .i64 0, .int .i64 0, .int .i64 0]), k96.sz, 24) := by kernel_rfl
theorem ginfoLExtents : (Try.prog.info? 38).map (fun i => (i.zero, i.size, i.bytes)) = some (some (.slice none 0 0), 1, 24) := by kernel_rfl
theorem flatExtents : Flat k96 := fun w w1 x cs h => by obtain rfl := k96_open h; exact k96_mk _ _
set_option maxRecDepth 100000 in
set_option maxHeartbeats 3200000 in
theorem grow_Extents (g base : Nat) (VI UI VS US : Value) (V U : Value) (vs : List Value) (L : List (List S96)) (w : World) (hb : Blk w g 60 (bookC VI UI VS US V U)) (hS : Shelf k96 96 38 w base V vs L (fun i l => marks mkExtents i 0 l.length))
    (hL : L.length ≤ 250) (hB : ∀ (i : Nat) l, L[i]? = some l → l.length ≤ 1000000) (hbase : base ≤ w.heap.size) :
    Calls Try.prog 82 #[.pointer (some ⟨g, 0, none⟩)] w fun e w' => ∃ O, e = .returned O ∧ ∃ os, Shows k96 96 38 w' w.heap.size O os L (fun i l => marks mkExtents i 0 (l.length + 72)) ∧ Shows k96 96 38 w' base V vs L (fun i l => marks mkExtents i 0 l.length) ∧ FxT 96 base w w' := by
  obtain ⟨A, n, rfl⟩ := row_slice hS.hV
  have HB := Aside0.mk hb
  have HG := Aside0.mk (hS.grown (G := fun i l => marks mkExtents i 0 (l.length + 72)))
  have HV := Aside0.mk hS.hV
  have HP := Aside0.mk hS.ne
  have HBd := Aside0.mk hB
  have HL := Aside0.mk hL
  have Hbase := Aside0.mk hbase
  have hvl := Aside0.mk hS.rv.1
  clear hb hS hB hL hbase
  go_enter Try.func82, Try.ntmps82
  go_wp2_with fail
  go_loopg [3, 4] L.length (fun kq o v wq => ∃ (i : Nat) (os : List Value), i + kq = L.length ∧ v = .int .i64 (i : Int) ∧ Aside0 (Grown k96 96 38 w wq base o vs os L (fun i l => marks mkExtents i 0 l.length) (fun i l => marks mkExtents i 0 (l.length + 72)) i))
  case atStart => exact ⟨0, [], by omega, rfl, HG⟩
  case round =>
    clear HG
    obtain ⟨i, os, hi, rfl, HG⟩ := hrel
    obtain ⟨Ao, co, rfl⟩ := row_slice HG.out.hO
    have hb1 := HG.out.fx.blk HB.out (by decide)
    have c4 := hb1.cell (i := 6) (v := .slice A L.length n) rfl
    clear hb1
    by_cases hlt : i < L.length
    · have hlt' : (i : Int) < (L.length : Int) := by omega
      have hi' : (i : Int) ≤ 250 := by have := HL.out; omega
      have hi2 : i ≤ 250 := by omega
      obtain ⟨kk, rfl⟩ : ∃ z, gk = z + 1 := ⟨gk - 1, by omega⟩
      obtain ⟨l, hl⟩ : ∃ l, L[i]? = some l := ⟨_, List.getElem?_eq_getElem hlt⟩
      have hbd := Aside0.mk (HBd.out i l hl)
      obtain ⟨v, hv⟩ : ∃ v, vs[i]? = some v := ⟨_, List.getElem?_eq_getElem (by rw [hvl.out]; exact hlt)⟩
      have hr0 := HG.out.rest i v l (Nat.le_refl _) hv hl
      obtain ⟨gv, cV, hVe, _, _, _, hcells⟩ := row_cells (own_move HV.out (w1 := wr) (fun q hq => HG.out.fx.2 q (own_lt HV.out q hq) (fun cs hc => by
        obtain ⟨cs', hc'⟩ := own_typed HV.out q hq
        rw [hc'] at hc; injection hc with hc; injection hc with _ hc; exact absurd hc (by decide)))) (by omega)
      have hcell := hcells i v hv
      injection hVe with q1 q2 q3
      subst q1; subst q3
      have HC := Aside0.mk (Cur.start hr0)
      have Hbq : Aside0 (base ≤ wr.heap.size) := ⟨HG.out.fx.base_le Hbase.out⟩
      obtain ⟨Av, cv, hve, _, _⟩ := Kd.R_reads hr0
      rw [marks_length] at hve
      subst hve
      have HVi := Aside0.mk hv
      clear hr0 hcells hv
      go_wp2_with fail
      go_loopg [5, 6] 12 (fun kq c v wq => ∃ k N : Nat, k + kq = 12 ∧ Aside0 (N = l.length + k) ∧ v = .int .i64 (k : Int) ∧ Aside0 (Cur k96 96 wr wq base (.slice Av l.length cv) c (marks mkExtents i 0 l.length) (marks mkExtents i 0 N)) ∧ Aside0 (base ≤ wq.heap.size))
      case atStart => exact ⟨0, l.length, by omega, ⟨rfl⟩, rfl, HC, Hbq⟩
      case round =>
        clear HC Hbq
        obtain ⟨k, N, hk, hN, rfl, HC, Hbq⟩ := hrel
        obtain ⟨A5, c5, h5, _, _⟩ := Kd.R_reads HC.out.r
        rw [marks_length] at h5
        subst h5
        by_cases hk1 : k < 12
        · have hk2 : (k : Int) < 12 := by omega
          obtain ⟨kz, rfl⟩ : ∃ z, gk = z + 1 := ⟨gk - 1, by omega⟩
          go_wp2_with fail
          refine (emulsionbook_markExtents.calls 2 (i : Int) (N : Int) 1 _ _ (markExtents_f i N 1 2 (by omega) (by omega) (by have := hN.out; have := hbd.out; omega))).mono ?_
          rintro e w6 ⟨vm, rfl, hrm, hbm⟩
          obtain ⟨Am, cm, hvm, hcm, _⟩ := Kd.R_reads hrm
          rw [marks_length] at hvm hcm
          subst hvm
          obtain ⟨gm, hAm, _, _, hCm⟩ := row_at0 hrm (by rw [marks_length]; omega)
          subst hAm
          rw [marks_length] at hCm
          have HMc := Aside0.mk hCm
          replace HC := Aside0.mk (HC.out.below flatExtents hbm)
          replace Hbq := Aside0.mk (Nat.le_trans Hbq.out hbm.size)
          clear hrm hbm hcm hCm
          go_wp2_with (first | ((with_reducible refine gate_builtin (b := .append) (xs := #[.tmp 27, .tmp 31]) rfl ?_); at_builtin; refine Kd.R_append_kept k96 base rfl (.tmp 27) (.tmp 31) 38 96 (.agg #[.int .i64 0, .int .i64 0, .int .i64 0]) 24 rfl Try.underlying38 ginfoExtents rfl (by decide) (by decide) (.slice A5 N c5) (marks mkExtents i 0 N) (marks mkExtents i N 1) ⟨gm, 0, none⟩ 1 cm (fun _ => True) (fun _ => False) rfl rfl HC.out.r HMc.out (fun x cs h => by obtain rfl := k96_open h; exact k96_mkM _ _ _ _) (fun _ h => h.elim) (fun _ _ => trivial) (Below.refl _ _) Hbq.out (by rw [marks_length]; have := hN.out; have := hbd.out; omega) ?_; intro v7 w7 hr7 hb7 hg7 hat7 hk7; have HC7 := Aside0.mk (HC.out.more flatExtents hr7 hg7 hat7 hk7); have Hbq7 := Aside0.mk (Nat.le_trans Hbq.out hg7.size); clear hr7 hb7 hg7 hat7 hk7; rw [marks_app0] at HC7))
          go_roundg kz
          case measure => omega
          case rel => exact ⟨k + 1, N + 1, by omega, ⟨by have := hN.out; omega⟩, by go_num, HC7, Hbq7⟩
        · obtain rfl : k = 12 := by omega
          go_wp2_with fail
          refine (emulsionbook_markExtents.calls 61 (i : Int) (N : Int) 60 _ _ (markExtents_f i N 60 61 (by omega) (by omega) (by have := hN.out; have := hbd.out; omega))).mono ?_
          rintro e w6 ⟨vm, rfl, hrm, hbm⟩
          obtain ⟨Am, cm, hvm, hcm, _⟩ := Kd.R_reads hrm
          rw [marks_length] at hvm hcm
          subst hvm
          obtain ⟨gm, hAm, _, _, hCm⟩ := row_at0 hrm (by rw [marks_length]; omega)
          subst hAm
          rw [marks_length] at hCm
          have HMc := Aside0.mk hCm
          replace HC := Aside0.mk (HC.out.below flatExtents hbm)
          replace Hbq := Aside0.mk (Nat.le_trans Hbq.out hbm.size)
          clear hrm hbm hcm hCm
          go_wp2_with (first | ((with_reducible refine gate_builtin (b := .append) (xs := #[.tmp 34, .tmp 38]) rfl ?_); at_builtin; refine Kd.R_append_kept k96 base rfl (.tmp 34) (.tmp 38) 38 96 (.agg #[.int .i64 0, .int .i64 0, .int .i64 0]) 24 rfl Try.underlying38 ginfoExtents rfl (by decide) (by decide) (.slice A5 N c5) (marks mkExtents i 0 N) (marks mkExtents i N 60) ⟨gm, 0, none⟩ 60 cm (fun _ => True) (fun _ => False) rfl rfl HC.out.r HMc.out (fun x cs h => by obtain rfl := k96_open h; exact k96_mkM _ _ _ _) (fun _ h => h.elim) (fun _ _ => trivial) (Below.refl _ _) Hbq.out (by rw [marks_length]; have := hN.out; have := hbd.out; omega) ?_; intro v7 w7 hr7 hb7 hg7 hat7 hk7; have HC7 := Aside0.mk (HC.out.more flatExtents hr7 hg7 hat7 hk7); have Hbq7 := Aside0.mk (Nat.le_trans Hbq.out hg7.size); clear hr7 hb7 hg7 hat7 hk7; rw [marks_app0] at HC7; obtain ⟨A8, c8, h8, _, _⟩ := Kd.R_reads HC7.out.r; rw [marks_length] at h8; subst h8; have HO7 := Aside0.mk (HG.out.O_at HVi.out HC7.out)) | ((with_reducible refine gate_builtin (b := .append) (xs := #[.tmp 33, .tmp 40]) rfl ?_); at_builtin; refine print_append_cells (w0 := w7) w.heap.size rfl (.tmp 33) (.tmp 40) 55 38 (.slice none 0 0) 1 24 rfl Try.underlying55 ginfoLExtents rfl (by decide) (by decide) (.slice Ao i co) i os [.slice A8 (N + 60) c8] rfl rfl rfl (by intro u hu; rw [List.mem_singleton.1 hu]; rfl) HO7.out.1 (Below.refl _ _) HO7.out.2 (by omega) ?_; intro O9 w9 hO9 hb9 hg9 hat9; have hNe : N + 60 = l.length + 72 := (by have := hN.out; omega); rw [hNe] at HC7 hO9; have HG9 := Aside0.mk (HG.out.next rfl flatExtents (by decide) HP.out Hbase.out HVi.out hl HC7.out hO9 hg9); clear hNe hO9 hb9 hg9 hat9))
          go_roundg kk
          case measure => omega
          case rel => exact ⟨i + 1, _, by omega, by go_num, HG9⟩
    · obtain rfl : i = L.length := by omega
      have hlt' : ¬ (L.length : Int) < (L.length : Int) := by omega
      go_wp2_with fail
      go_ret
      have h := HG.out.shows HV.out (by decide)
      exact ⟨_, rfl, ⟨_, h.1⟩, h.2⟩
end Go.Proofs.Ytacmfpkmcefcfaa.Hand
end
section
namespace Go.Proofs.Ytacmfpkmcefcfaa.Hand
open Go.RowKit Go.Proofs.YtacmfpkmcefcfaaW.PrintWords Go.Proofs.YtacmfpkmcefcfaaW.PrintLast Go.Proofs.YtacmfpkmcefcfaaW.PrintMore Go.Proofs.Ytacmfpkmcefcfaa.A
set_option linter.unusedVariables false
set_option linter.unusedSimpArgs false
attribute [local go_sem] max2_int min2_int max_two min_two max_three min_three max_four min_four
theorem lowB {n base : Nat} {w w1 : World} (hb : Below n w w1) (h : base ≤ n) : Below base w w1 := ⟨hb.os, hb.tape, hb.output, hb.size, fun k hk => hb.block k (by omega)⟩
theorem marked_Spans (t base n c : Nat) (ht : t ≤ 100) (A : Option Addr) (vs : List Value) (L : List (List S119)) (hL : L.length ≤ 250) (hB : ∀ (i : Nat) l, L[i]? = some l → l.length ≤ 1000000) (w : World)
    (h : Shows k119 119 128 w base (.slice A n c) vs L (fun i l => marks mkSpans i 0 (l.length + t))) :
    Calls Try.prog 88 #[.slice A n c] w fun e w' => e = .returned (.bool true) ∧ Below w.heap.size w w' := by
  obtain ⟨hn, hc, hC⟩ := h.calls
  subst hn
  have hlen : (L.mapIdx (fun i l => marks mkSpans i 0 (l.length + t))).length = L.length := List.length_mapIdx
  refine emulsionbook_markedSpans.calls 2000000 A c _ true w hC hc (markedSpans_f _ (by rw [hlen]; omega) 1000100 (by omega) (fun i l hl => ?_) _ (by rw [hlen]; omega))
  rw [List.getElem?_mapIdx] at hl
  obtain ⟨l0, hl0, rfl⟩ := Option.map_eq_some_iff.1 hl
  have := hB i l0 hl0
  rw [marks_length]
  exact ⟨by omega, rfl⟩
theorem marked_Ints (t base n c : Nat) (ht : t ≤ 100) (A : Option Addr) (vs : List Value) (L : List (List Int)) (hL : L.length ≤ 250) (hB : ∀ (i : Nat) l, L[i]? = some l → l.length ≤ 1000000) (w : World)
    (h : Shows (Kd.int .i64) 3 75 w base (.slice A n c) vs L (fun i l => marks mkInts i 0 (l.length + t))) :
    Calls Try.prog 87 #[.slice A n c] w fun e w' => e = .returned (.bool true) ∧ Below w.heap.size w w' := by
  obtain ⟨hn, hc, hC⟩ := h.calls
  subst hn
  have hlen : (L.mapIdx (fun i l => marks mkInts i 0 (l.length + t))).length = L.length := List.length_mapIdx
  refine emulsionbook_markedInts.calls 2000000 A c _ true w hC hc (markedInts_f _ (by rw [hlen]; omega) 1000100 (by omega) (fun i l hl => ?_) _ (by rw [hlen]; omega))
  rw [List.getElem?_mapIdx] at hl
  obtain ⟨l0, hl0, rfl⟩ := Option.map_eq_some_iff.1 hl
  have := hB i l0 hl0
  rw [marks_length]
  exact ⟨by omega, rfl⟩
theorem marked_Extents (t base n c : Nat) (ht : t ≤ 100) (A : Option Addr) (vs : List Value) (L : List (List S96)) (hL : L.length ≤ 250) (hB : ∀ (i : Nat) l, L[i]? = some l → l.length ≤ 1000000) (w : World)
    (h : Shows k96 96 38 w base (.slice A n c) vs L (fun i l => marks mkExtents i 0 (l.length + t))) :
    Calls Try.prog 89 #[.slice A n c] w fun e w' => e = .returned (.bool true) ∧ Below w.heap.size w w' := by
  obtain ⟨hn, hc, hC⟩ := h.calls
  subst hn
  have hlen : (L.mapIdx (fun i l => marks mkExtents i 0 (l.length + t))).length = L.length := List.length_mapIdx
  refine emulsionbook_markedExtents.calls 2000000 A c _ true w hC hc (markedExtents_f _ (by rw [hlen]; omega) 1000100 (by omega) (fun i l hl => ?_) _ (by rw [hlen]; omega))
  rw [List.getElem?_mapIdx] at hl
  obtain ⟨l0, hl0, rfl⟩ := Option.map_eq_some_iff.1 hl
  have := hB i l0 hl0
  rw [marks_length]
  exact ⟨by omega, rfl⟩
set_option maxRecDepth 100000 in
set_option maxHeartbeats 6400000 in
theorem apart (g base : Nat) (VI UI VS US VE UE : Value) (vi ui vss us ve ue : List Value) (LI : List (List Int)) (LS : List (List S119)) (LE : List (List S96)) (w : World)
    (hb : Blk w g 60 (bookC VI UI VS US VE UE)) (hI : Pile (Kd.int .i64) 3 75 w base VI UI vi ui LI) (hS : Pile k119 119 128 w base VS US vss us LS) (hE : Pile k96 96 38 w base VE UE ve ue LE)
    (bI : LI.length ≤ 250 ∧ ∀ (i : Nat) l, LI[i]? = some l → l.length ≤ 1000000) (bS : LS.length ≤ 250 ∧ ∀ (i : Nat) l, LS[i]? = some l → l.length ≤ 1000000) (bE : LE.length ≤ 250 ∧ ∀ (i : Nat) l, LE[i]? = some l → l.length ≤ 1000000) (hbase : base ≤ w.heap.size) :
    Calls Try.prog 37 #[.pointer (some ⟨g, 0, none⟩)] w fun e w' => e = .returned (.bool true) ∧ Below base w w' := by
  have HF := Aside0.mk (Below.refl base w)
  obtain ⟨AI, nI, rfl⟩ := row_slice hI.hV
  obtain ⟨AS, nS, rfl⟩ := row_slice hS.hV
  obtain ⟨AE, nE, rfl⟩ := row_slice hE.hV
  have HB := Aside0.mk hb
  have HI := Aside0.mk hI
  have HS := Aside0.mk hS
  have HE := Aside0.mk hE
  have BHI := Aside0.mk bI
  have BHS := Aside0.mk bS
  have BHE := Aside0.mk bE
  have Hbase := Aside0.mk hbase
  clear hb hI hS hE bI bS bE hbase
  go_enter Try.func37, Try.ntmps37
  go_wp2_with fail
  refine (still_nil_Texts g _ _ HB.out rfl).mono ?_
  rintro e w1 ⟨rfl, rfl⟩
  go_wp2_with fail
  refine (still_Ints g base _ _ _ _ _ _ _ _ _ _ HB.out HI.out BHI.out.1 BHI.out.2).mono ?_
  rintro e w1 ⟨rfl, hb⟩
  replace HI := Aside0.mk (HI.out.below hb)
  replace HS := Aside0.mk (HS.out.below hb)
  replace HE := Aside0.mk (HE.out.below hb)
  replace HB := Aside0.mk (HB.out.keep hb)
  replace HF := Aside0.mk (HF.out.trans (lowB hb Hbase.out))
  replace Hbase := Aside0.mk (Nat.le_trans Hbase.out hb.size)
  clear hb
  go_wp2_with fail
  refine (still_Spans g base _ _ _ _ _ _ _ _ _ _ HB.out HS.out BHS.out.1 BHS.out.2).mono ?_
  rintro e w1 ⟨rfl, hb⟩
  replace HI := Aside0.mk (HI.out.below hb)
  replace HS := Aside0.mk (HS.out.below hb)
  replace HE := Aside0.mk (HE.out.below hb)
  replace HB := Aside0.mk (HB.out.keep hb)
  replace HF := Aside0.mk (HF.out.trans (lowB hb Hbase.out))
  replace Hbase := Aside0.mk (Nat.le_trans Hbase.out hb.size)
  clear hb
  go_wp2_with fail
  refine (still_Extents g base _ _ _ _ _ _ _ _ _ _ HB.out HE.out BHE.out.1 BHE.out.2).mono ?_
  rintro e w1 ⟨rfl, hb⟩
  replace HI := Aside0.mk (HI.out.below hb)
  replace HS := Aside0.mk (HS.out.below hb)
  replace HE := Aside0.mk (HE.out.below hb)
  replace HB := Aside0.mk (HB.out.keep hb)
  replace HF := Aside0.mk (HF.out.trans (lowB hb Hbase.out))
  replace Hbase := Aside0.mk (Nat.le_trans Hbase.out hb.size)
  clear hb
  go_wp2_with fail
  refine (still_nil_Shelves g _ _ HB.out rfl).mono ?_
  rintro e w1 ⟨rfl, rfl⟩
  go_wp2_with fail
  refine (still_nil_Pairs g _ _ HB.out rfl).mono ?_
  rintro e w1 ⟨rfl, rfl⟩
  go_wp2_with fail
  refine (still_nil_Points g _ _ HB.out rfl).mono ?_
  rintro e w1 ⟨rfl, rfl⟩
  go_wp2_with fail
  replace HI := Aside0.mk HI.out.shelf
  replace HS := Aside0.mk HS.out.shelf
  replace HE := Aside0.mk HE.out.shelf
  refine (put_nil_Points g _ _ HB.out rfl).mono ?_
  rintro e w1 ⟨rfl, rfl⟩
  go_wp2_with fail
  refine (put_nil_Texts g _ _ HB.out rfl).mono ?_
  rintro e w1 ⟨rfl, rfl⟩
  go_wp2_with fail
  refine (put_Ints g base _ _ _ _ _ _ _ _ _ HB.out HI.out BHI.out.1 BHI.out.2 Hbase.out).mono ?_
  rintro e w1 ⟨rfl, hs, hx⟩
  replace HI := Aside0.mk hs
  replace HS := Aside0.mk (HS.out.fx rfl hx (by decide) (by decide))
  replace HE := Aside0.mk (HE.out.fx rfl hx (by decide) (by decide))
  replace HB := Aside0.mk (hx.blk HB.out (by decide))
  replace HF := Aside0.mk (HF.out.trans hx.1)
  replace Hbase := Aside0.mk (hx.base_le Hbase.out)
  clear hs hx
  go_wp2_with fail
  refine (put_Spans g base _ _ _ _ _ _ _ _ _ HB.out HS.out BHS.out.1 BHS.out.2 Hbase.out).mono ?_
  rintro e w1 ⟨rfl, hs, hx⟩
  replace HS := Aside0.mk hs
  replace HI := Aside0.mk (HI.out.fx rfl hx (by decide) (by decide))
  replace HE := Aside0.mk (HE.out.fx rfl hx (by decide) (by decide))
  replace HB := Aside0.mk (hx.blk HB.out (by decide))
  replace HF := Aside0.mk (HF.out.trans hx.1)
  replace Hbase := Aside0.mk (hx.base_le Hbase.out)
  clear hs hx
  go_wp2_with fail
  refine (put_Extents g base _ _ _ _ _ _ _ _ _ HB.out HE.out BHE.out.1 BHE.out.2 Hbase.out).mono ?_
  rintro e w1 ⟨rfl, hs, hx⟩
  replace HE := Aside0.mk hs
  replace HI := Aside0.mk (HI.out.fx rfl hx (by decide) (by decide))
  replace HS := Aside0.mk (HS.out.fx rfl hx (by decide) (by decide))
  replace HB := Aside0.mk (hx.blk HB.out (by decide))
  replace HF := Aside0.mk (HF.out.trans hx.1)
  replace Hbase := Aside0.mk (hx.base_le Hbase.out)
  clear hs hx
  go_wp2_with fail
  refine (put_nil_Shelves g _ _ HB.out rfl).mono ?_
  rintro e w1 ⟨rfl, rfl⟩
  go_wp2_with fail
  refine (put_nil_Pairs g _ _ HB.out rfl).mono ?_
  rintro e w1 ⟨rfl, rfl⟩
  go_wp2_with fail
  refine (grow_nil_Texts g _ _ HB.out rfl).mono ?_
  rintro e w1 ⟨rfl, rfl⟩
  go_wp2_with fail
  refine (grow_Ints g base _ _ _ _ _ _ _ _ _ HB.out HI.out BHI.out.1 BHI.out.2 Hbase.out).mono ?_
  rintro e w1 ⟨OHI, rfl, osHI, hs1, hs2, hx⟩
  obtain ⟨AHI, cHI, hO⟩ := row_slice hs1.1
  subst hO
  have GHI := Aside0.mk hs1
  have KHI := Aside0.mk hs2
  replace HS := Aside0.mk (HS.out.fx rfl hx (by decide) (by decide))
  replace HE := Aside0.mk (HE.out.fx rfl hx (by decide) (by decide))
  replace HB := Aside0.mk (hx.blk HB.out (by decide))
  replace HF := Aside0.mk (HF.out.trans hx.1)
  replace Hbase := Aside0.mk (hx.base_le Hbase.out)
  clear hs1 hs2 hx HI
  go_wp2_with fail
  refine (grow_Spans g base _ _ _ _ _ _ _ _ _ HB.out HS.out BHS.out.1 BHS.out.2 Hbase.out).mono ?_
  rintro e w1 ⟨OHS, rfl, osHS, hs1, hs2, hx⟩
  obtain ⟨AHS, cHS, hO⟩ := row_slice hs1.1
  subst hO
  have GHS := Aside0.mk hs1
  have KHS := Aside0.mk hs2
  replace HE := Aside0.mk (HE.out.fx rfl hx (by decide) (by decide))
  replace GHI := Aside0.mk (GHI.out.fx flatInts hx (by decide) (by decide))
  replace KHI := Aside0.mk (KHI.out.fx flatInts hx (by decide) (by decide))
  replace HB := Aside0.mk (hx.blk HB.out (by decide))
  replace HF := Aside0.mk (HF.out.trans hx.1)
  replace Hbase := Aside0.mk (hx.base_le Hbase.out)
  clear hs1 hs2 hx HS
  go_wp2_with fail
  refine (grow_Extents g base _ _ _ _ _ _ _ _ _ HB.out HE.out BHE.out.1 BHE.out.2 Hbase.out).mono ?_
  rintro e w1 ⟨OHE, rfl, osHE, hs1, hs2, hx⟩
  obtain ⟨AHE, cHE, hO⟩ := row_slice hs1.1
  subst hO
  have GHE := Aside0.mk hs1
  have KHE := Aside0.mk hs2
  replace GHI := Aside0.mk (GHI.out.fx flatInts hx (by decide) (by decide))
  replace KHI := Aside0.mk (KHI.out.fx flatInts hx (by decide) (by decide))
  replace GHS := Aside0.mk (GHS.out.fx flatSpans hx (by decide) (by decide))
  replace KHS := Aside0.mk (KHS.out.fx flatSpans hx (by decide) (by decide))
  replace HB := Aside0.mk (hx.blk HB.out (by decide))
  replace HF := Aside0.mk (HF.out.trans hx.1)
  replace Hbase := Aside0.mk (hx.base_le Hbase.out)
  clear hs1 hs2 hx HE
  go_wp2_with fail
  refine (grow_nil_Shelves g _ _ HB.out rfl).mono ?_
  rintro e w1 ⟨rfl, rfl⟩
  go_wp2_with fail
  refine (grow_nil_Pairs g _ _ HB.out rfl).mono ?_
  rintro e w1 ⟨rfl, rfl⟩
  go_wp2_with fail
  refine (grow_nil_Points g _ _ HB.out rfl).mono ?_
  rintro e w1 ⟨rfl, rfl⟩
  have c0 := HB.out.cell (i := 0) (v := .slice none 0 0) rfl
  have c2 := HB.out.cell (i := 2) (v := .slice AI LI.length nI) rfl
  have c4 := HB.out.cell (i := 4) (v := .slice AS LS.length nS) rfl
  have c6 := HB.out.cell (i := 6) (v := .slice AE LE.length nE) rfl
  have c8 := HB.out.cell (i := 8) (v := .slice none 0 0) rfl
  have c10 := HB.out.cell (i := 10) (v := .slice none 0 0) rfl
  have c12 := HB.out.cell (i := 12) (v := .slice none 0 0) rfl
  go_wp2_with fail
  refine (marked_nil_Texts _).mono ?_
  rintro e w1 ⟨rfl, rfl⟩
  go_wp2_with fail
  refine (marked_nil_Texts _).mono ?_
  rintro e w1 ⟨rfl, rfl⟩
  go_wp2_with fail
  refine (marked_Ints 72 _ _ _ (by decide) _ _ _ BHI.out.1 BHI.out.2 _ GHI.out).mono ?_
  rintro e w1 ⟨rfl, hb⟩
  clear c0 c2 c4 c6 c8 c10 c12
  replace GHI := Aside0.mk (GHI.out.below flatInts hb)
  replace KHI := Aside0.mk (KHI.out.below flatInts hb)
  replace GHS := Aside0.mk (GHS.out.below flatSpans hb)
  replace KHS := Aside0.mk (KHS.out.below flatSpans hb)
  replace GHE := Aside0.mk (GHE.out.below flatExtents hb)
  replace KHE := Aside0.mk (KHE.out.below flatExtents hb)
  replace HB := Aside0.mk (HB.out.keep hb)
  replace HF := Aside0.mk (HF.out.trans (lowB hb Hbase.out))
  replace Hbase := Aside0.mk (Nat.le_trans Hbase.out hb.size)
  clear hb
  have c0 := HB.out.cell (i := 0) (v := .slice none 0 0) rfl
  have c2 := HB.out.cell (i := 2) (v := .slice AI LI.length nI) rfl
  have c4 := HB.out.cell (i := 4) (v := .slice AS LS.length nS) rfl
  have c6 := HB.out.cell (i := 6) (v := .slice AE LE.length nE) rfl
  have c8 := HB.out.cell (i := 8) (v := .slice none 0 0) rfl
  have c10 := HB.out.cell (i := 10) (v := .slice none 0 0) rfl
  have c12 := HB.out.cell (i := 12) (v := .slice none 0 0) rfl
  go_wp2_with fail
  refine (marked_Ints 0 _ _ _ (by decide) _ _ _ BHI.out.1 BHI.out.2 _ KHI.out).mono ?_
  rintro e w1 ⟨rfl, hb⟩
  clear c0 c2 c4 c6 c8 c10 c12
  replace GHI := Aside0.mk (GHI.out.below flatInts hb)
  replace KHI := Aside0.mk (KHI.out.below flatInts hb)
  replace GHS := Aside0.mk (GHS.out.below flatSpans hb)
  replace KHS := Aside0.mk (KHS.out.below flatSpans hb)
  replace GHE := Aside0.mk (GHE.out.below flatExtents hb)
  replace KHE := Aside0.mk (KHE.out.below flatExtents hb)
  replace HB := Aside0.mk (HB.out.keep hb)
  replace HF := Aside0.mk (HF.out.trans (lowB hb Hbase.out))
  replace Hbase := Aside0.mk (Nat.le_trans Hbase.out hb.size)
  clear hb
  have c0 := HB.out.cell (i := 0) (v := .slice none 0 0) rfl
  have c2 := HB.out.cell (i := 2) (v := .slice AI LI.length nI) rfl
  have c4 := HB.out.cell (i := 4) (v := .slice AS LS.length nS) rfl
  have c6 := HB.out.cell (i := 6) (v := .slice AE LE.length nE) rfl
  have c8 := HB.out.cell (i := 8) (v := .slice none 0 0) rfl
  have c10 := HB.out.cell (i := 10) (v := .slice none 0 0) rfl
  have c12 := HB.out.cell (i := 12) (v := .slice none 0 0) rfl
  go_wp2_with fail
  refine (marked_Spans 72 _ _ _ (by decide) _ _ _ BHS.out.1 BHS.out.2 _ GHS.out).mono ?_
  rintro e w1 ⟨rfl, hb⟩
  clear c0 c2 c4 c6 c8 c10 c12
  replace GHI := Aside0.mk (GHI.out.below flatInts hb)
  replace KHI := Aside0.mk (KHI.out.below flatInts hb)
  replace GHS := Aside0.mk (GHS.out.below flatSpans hb)
  replace KHS := Aside0.mk (KHS.out.below flatSpans hb)
  replace GHE := Aside0.mk (GHE.out.below flatExtents hb)
  replace KHE := Aside0.mk (KHE.out.below flatExtents hb)
  replace HB := Aside0.mk (HB.out.keep hb)
  replace HF := Aside0.mk (HF.out.trans (lowB hb Hbase.out))
  replace Hbase := Aside0.mk (Nat.le_trans Hbase.out hb.size)
  clear hb
  have c0 := HB.out.cell (i := 0) (v := .slice none 0 0) rfl
  have c2 := HB.out.cell (i := 2) (v := .slice AI LI.length nI) rfl
  have c4 := HB.out.cell (i := 4) (v := .slice AS LS.length nS) rfl
  have c6 := HB.out.cell (i := 6) (v := .slice AE LE.length nE) rfl
  have c8 := HB.out.cell (i := 8) (v := .slice none 0 0) rfl
  have c10 := HB.out.cell (i := 10) (v := .slice none 0 0) rfl
  have c12 := HB.out.cell (i := 12) (v := .slice none 0 0) rfl
  go_wp2_with fail
  refine (marked_Spans 0 _ _ _ (by decide) _ _ _ BHS.out.1 BHS.out.2 _ KHS.out).mono ?_
  rintro e w1 ⟨rfl, hb⟩
  clear c0 c2 c4 c6 c8 c10 c12
  replace GHI := Aside0.mk (GHI.out.below flatInts hb)
  replace KHI := Aside0.mk (KHI.out.below flatInts hb)
  replace GHS := Aside0.mk (GHS.out.below flatSpans hb)
  replace KHS := Aside0.mk (KHS.out.below flatSpans hb)
  replace GHE := Aside0.mk (GHE.out.below flatExtents hb)
  replace KHE := Aside0.mk (KHE.out.below flatExtents hb)
  replace HB := Aside0.mk (HB.out.keep hb)
  replace HF := Aside0.mk (HF.out.trans (lowB hb Hbase.out))
  replace Hbase := Aside0.mk (Nat.le_trans Hbase.out hb.size)
  clear hb
  have c0 := HB.out.cell (i := 0) (v := .slice none 0 0) rfl
  have c2 := HB.out.cell (i := 2) (v := .slice AI LI.length nI) rfl
  have c4 := HB.out.cell (i := 4) (v := .slice AS LS.length nS) rfl
  have c6 := HB.out.cell (i := 6) (v := .slice AE LE.length nE) rfl
  have c8 := HB.out.cell (i := 8) (v := .slice none 0 0) rfl
  have c10 := HB.out.cell (i := 10) (v := .slice none 0 0) rfl
  have c12 := HB.out.cell (i := 12) (v := .slice none 0 0) rfl
  go_wp2_with fail
  refine (marked_Extents 72 _ _ _ (by decide) _ _ _ BHE.out.1 BHE.out.2 _ GHE.out).mono ?_
  rintro e w1 ⟨rfl, hb⟩
  clear c0 c2 c4 c6 c8 c10 c12
  replace GHI := Aside0.mk (GHI.out.below flatInts hb)
  replace KHI := Aside0.mk (KHI.out.below flatInts hb)
  replace GHS := Aside0.mk (GHS.out.below flatSpans hb)
  replace KHS := Aside0.mk (KHS.out.below flatSpans hb)
  replace GHE := Aside0.mk (GHE.out.below flatExtents hb)
  replace KHE := Aside0.mk (KHE.out.below flatExtents hb)
  replace HB := Aside0.mk (HB.out.keep hb)
  replace HF := Aside0.mk (HF.out.trans (lowB hb Hbase.out))
  replace Hbase := Aside0.mk (Nat.le_trans Hbase.out hb.size)
  clear hb
  have c0 := HB.out.cell (i := 0) (v := .slice none 0 0) rfl
  have c2 := HB.out.cell (i := 2) (v := .slice AI LI.length nI) rfl
  have c4 := HB.out.cell (i := 4) (v := .slice AS LS.length nS) rfl
  have c6 := HB.out.cell (i := 6) (v := .slice AE LE.length nE) rfl
  have c8 := HB.out.cell (i := 8) (v := .slice none 0 0) rfl
  have c10 := HB.out.cell (i := 10) (v := .slice none 0 0) rfl
  have c12 := HB.out.cell (i := 12) (v := .slice none 0 0) rfl
  go_wp2_with fail
  refine (marked_Extents 0 _ _ _ (by decide) _ _ _ BHE.out.1 BHE.out.2 _ KHE.out).mono ?_
  rintro e w1 ⟨rfl, hb⟩
  clear c0 c2 c4 c6 c8 c10 c12
  replace GHI := Aside0.mk (GHI.out.below flatInts hb)
  replace KHI := Aside0.mk (KHI.out.below flatInts hb)
  replace GHS := Aside0.mk (GHS.out.below flatSpans hb)
  replace KHS := Aside0.mk (KHS.out.below flatSpans hb)
  replace GHE := Aside0.mk (GHE.out.below flatExtents hb)
  replace KHE := Aside0.mk (KHE.out.below flatExtents hb)
  replace HB := Aside0.mk (HB.out.keep hb)
  replace HF := Aside0.mk (HF.out.trans (lowB hb Hbase.out))
  replace Hbase := Aside0.mk (Nat.le_trans Hbase.out hb.size)
  clear hb
  have c0 := HB.out.cell (i := 0) (v := .slice none 0 0) rfl
  have c2 := HB.out.cell (i := 2) (v := .slice AI LI.length nI) rfl
  have c4 := HB.out.cell (i := 4) (v := .slice AS LS.length nS) rfl
  have c6 := HB.out.cell (i := 6) (v := .slice AE LE.length nE) rfl
  have c8 := HB.out.cell (i := 8) (v := .slice none 0 0) rfl
  have c10 := HB.out.cell (i := 10) (v := .slice none 0 0) rfl
  have c12 := HB.out.cell (i := 12) (v := .slice none 0 0) rfl
  go_wp2_with fail
  refine (marked_nil_Shelves _).mono ?_
  rintro e w1 ⟨rfl, rfl⟩
  go_wp2_with fail
  refine (marked_nil_Shelves _).mono ?_
  rintro e w1 ⟨rfl, rfl⟩
  go_wp2_with fail
  refine (marked_nil_Pairs _).mono ?_
  rintro e w1 ⟨rfl, rfl⟩
  go_wp2_with fail
  refine (marked_nil_Pairs _).mono ?_
  rintro e w1 ⟨rfl, rfl⟩
  go_wp2_with fail
  refine (marked_nil_Points _).mono ?_
  rintro e w1 ⟨rfl, rfl⟩
  go_wp2_with fail
  refine (marked_nil_Points _).mono ?_
  rintro e w1 ⟨rfl, rfl⟩
  go_wp2_with fail
  go_ret
  exact ⟨rfl, HF.out⟩
end Go.Proofs.Ytacmfpkmcefcfaa.Hand
end
section
namespace Go.Proofs.Ytacmfpkmcefcfaa.Hand
open Go.RowKit Go.Proofs.YtacmfpkmcefcfaaW.PrintWords Go.Proofs.YtacmfpkmcefcfaaW.PrintLast Go.Proofs.YtacmfpkmcefcfaaW.PrintMore Go.Proofs.Ytacmfpkmcefcfaa.A
set_option linter.unusedVariables false
set_option linter.unusedSimpArgs false
attribute [local go_sem] max2_int min2_int max_two min_two max_three min_three max_four min_four
set_option maxRecDepth 100000 in
theorem copy_Extents (A : Option Addr) (c : Nat) (l : List S96) (hl : l.length ≤ 1000000) (w : World) (hC : Kd.C k96 w A l.length l) :
    Calls Try.prog 59 #[.slice A l.length c] w fun e w' => ∃ u, e = .returned u ∧ Kd.R k96 96 w' w.heap.size (fun _ => True) u l ∧ Below w.heap.size w w' := by
  have HC := Aside0.mk hC
  have Hl := Aside0.mk hl
  clear hC hl
  go_enter Try.func59, Try.ntmps59
  go_wp2_with (at_builtin; refine Kd.R_append_rows k96 (w0 := w) w.heap.size rfl (.const (.slice none 0 0)) (.tmp 3) 38 96 (.agg #[.int .i64 0, .int .i64 0, .int .i64 0]) 24 rfl Try.underlying38 ginfoExtents rfl (by decide) (by decide) (.slice none 0 0) [] l A l.length c (fun _ => True) (fun _ => False) rfl rfl (Kd.R_nil _ _ _ _ _) HC.out (fun x cs h => by obtain rfl := k96_open h; exact k96_mkM _ _ _ _) (fun _ h => h.elim) (fun _ _ => trivial) (Below.refl _ _) (Nat.le_refl _) (by have := Hl.out; rw [List.length_nil]; omega) ?_; intro v1 w1 hr hb hg hat)
  have HR := Aside0.mk hr
  have HB := Aside0.mk hb
  clear hr hb hg hat
  rw [List.nil_append] at HR
  obtain ⟨A1, c1, hv, _⟩ := Kd.R_reads HR.out
  subst hv
  go_ret
  exact ⟨_, rfl, HR.out, HB.out⟩
set_option maxRecDepth 100000 in
set_option maxHeartbeats 1600000 in
theorem add_Extents (g base : Nat) (VI UI VS US : Value) (V U : Value) (vs us : List Value) (L : List (List S96)) (v : Value) (l : List S96) (w : World) (hb : Blk w g 60 (bookC VI UI VS US V U)) (hP : Pile k96 96 38 w base V U vs us L)
    (hv : Kd.R k96 96 w base (fun _ => True) v l) (hl : l.length ≤ 1000000) (hL : L.length < 250) (hnv : ∀ x ∈ vs ++ us, NeRow x v) (hbase : base ≤ w.heap.size) (hg : base ≤ g) :
    Calls Try.prog 33 #[.pointer (some ⟨g, 0, none⟩), v] w fun e w' => e = .returned (.tuple #[]) ∧ ∃ V' U' u, Blk w' g 60 (bookC VI UI VS US V' U') ∧ Pile k96 96 38 w' base V' U' (vs ++ [v]) (us ++ [u]) (L ++ [l]) ∧ (∀ k, u.ownBlock = some k → w.heap.size ≤ k) ∧ BookFx 38 g base w w' := by
  obtain ⟨A, n, rfl⟩ := row_slice hP.hV
  obtain ⟨AU, nU, rfl⟩ := row_slice hP.hU
  obtain ⟨Av, cv, rfl, hcv, hCv⟩ := Kd.R_reads hv
  have c4 : w.cell? ⟨g, 6, none⟩ = some (.slice A L.length n) := hb.cell (i := 6) rfl
  have f4 := hb.frozen 6
  have HB := Aside0.mk hb
  have HP := Aside0.mk hP
  have HV := Aside0.mk hv
  have HC := Aside0.mk hCv
  have Hl := Aside0.mk hl
  have Hn := Aside0.mk hnv
  have Hbase := Aside0.mk hbase
  have Hg := Aside0.mk hg
  have HLn := Aside0.mk hL
  have hLi : (L.length : Int) < 250 := by omega
  have hgl : g < w.heap.size := hb.lt
  clear hb hP hv hCv hl hnv hbase hg hcv hL
  go_enter Try.func33, Try.ntmps33
  go_wp2_with (first | ((with_reducible refine gate_builtin (b := .append) (xs := #[.tmp 14, .tmp 16]) rfl ?_); at_builtin; refine print_append_cells (w0 := w) base rfl (.tmp 14) (.tmp 16) 55 38 (.slice none 0 0) 1 24 rfl Try.underlying55 ginfoLExtents rfl (by decide) (by decide) (.slice A L.length n) L.length vs [.slice Av l.length cv] rfl rfl rfl (by intro u hu; rw [List.mem_singleton.1 hu]; rfl) HP.out.hV (Below.refl _ _) Hbase.out (by have := HLn.out; omega) ?_; intro V1 w1 hV1 hb1 hg1 hat1; have HV1 := Aside0.mk hV1; have HW1 := Aside0.mk hb1; have HG1 := Aside0.mk hg1; have HA1 := Aside0.mk hat1; obtain ⟨A1, n1, hV1e⟩ := row_slice hV1; subst hV1e; have HB1 := Aside0.mk (HB.out.grownB hg1 (fun q => own_ne HP.out.hV HB.out.hd (by decide) q.symm)); have c4 : w1.cell? ⟨g, 6, none⟩ = some (.slice A L.length n) := HB1.out.cell (i := 6) rfl; have f4 := HB1.out.frozen 6; clear hV1 hb1 hg1 hat1))
  have hc2 : Kd.C k96 (w1.setCell ⟨g, 6, none⟩ (.slice A1 (L.length + 1) n1)) Av l.length l := (C_of_R (add_R (j := 6) rfl (by decide) (by decide) HP.out.hV HV.out HB1.out HG1.out)).1
  have hb2 : Blk (w1.setCell ⟨g, 6, none⟩ (.slice A1 (L.length + 1) n1)) g 60 (bookC VI UI VS US (.slice A1 (L.length + 1) n1) (.slice AU L.length nU)) := HB1.out.set_ 6 _
  have c5 : (w1.setCell ⟨g, 6, none⟩ (.slice A1 (L.length + 1) n1)).cell? ⟨g, 7, none⟩ = some (.slice AU L.length nU) := hb2.cell (i := 7) rfl
  have HC2 := Aside0.mk hc2
  have HB2 := Aside0.mk hb2
  generalize hw2 : w1.setCell ⟨g, 6, none⟩ (.slice A1 (L.length + 1) n1) = w2 at c5 HC2 HB2 ⊢
  clear hc2 hb2 c4 f4
  refine start_ (n := 12) (S := fun w' => w'.cell? ⟨g, 7, none⟩ = some (.slice AU L.length nU) ∧ Below w2.heap.size w2 w' ∧ Kd.C k96 w' Av l.length l ∧ Blk w' g 60 (bookC VI UI VS US (.slice A1 (L.length + 1) n1) (.slice AU L.length nU))) (ds := [8, 11]) #[false, false, false, false, false, false, false, false, false, false, false, false] (by kernel_rfl) rfl rfl ⟨c5, (below_drew (Below.refl _ _)), (Kd.C_drew HC2.out), HB2.out.drew⟩ (fun hHeld => ?_)
  refine pure_ (i := 0) (N := some 20) (v := ?_) (a' := ?_) #[true, false, false, false, false, false, false, false, false, false, false, false] rfl rfl (by kernel_rfl) (fun _ _ _ h => h) (Or.inl ⟨by rfl, ?_⟩) ?_ ?_
  rotate_left
  · intro w'
    go_simp
    with_reducible rfl
  rotate_left
  · simp only [Act.put, List.setIfInBounds_toArray, List.set_cons_zero, List.set_cons_succ, i64_w, i32_w]
    rfl
  refine pure_ (i := 1) (N := some 21) (v := ?_) (a' := ?_) #[true, true, false, false, false, false, false, false, false, false, false, false] rfl rfl (by kernel_rfl) (fun _ _ _ h => h) (Or.inl ⟨by rfl, ?_⟩) ?_ ?_
  rotate_left
  · intro w'
    go_simp
    with_reducible rfl
  rotate_left
  · simp only [Act.put, List.setIfInBounds_toArray, List.set_cons_zero, List.set_cons_succ, i64_w, i32_w]
    rfl
  refine pure_ (i := 2) (N := some 22) (v := ?_) (a' := ?_) #[true, true, true, false, false, false, false, false, false, false, false, false] rfl rfl (by kernel_rfl) (fun _ _ _ h => h) (Or.inl ⟨by rfl, ?_⟩) ?_ ?_
  rotate_left
  · intro w'
    go_simp
    with_reducible rfl
  rotate_left
  · simp only [Act.put, List.setIfInBounds_toArray, List.set_cons_zero, List.set_cons_succ, i64_w, i32_w]
    rfl
  refine pure_ (i := 3) (N := some 23) (v := ?_) (a' := ?_) #[true, true, true, true, false, false, false, false, false, false, false, false] rfl rfl (by kernel_rfl) (fun _ _ _ h => h) (Or.inl ⟨by rfl, ?_⟩) ?_ ?_
  rotate_left
  · intro w'
    go_simp
    with_reducible rfl
  rotate_left
  · simp only [Act.put, List.setIfInBounds_toArray, List.set_cons_zero, List.set_cons_succ, i64_w, i32_w]
    rfl
  refine pure_ (i := 5) (N := some 25) (v := ?_) (a' := ?_) #[true, true, true, true, false, true, false, false, false, false, false, false] rfl rfl (by kernel_rfl) (fun _ _ _ h => h) (Or.inl ⟨by rfl, ?_⟩) ?_ ?_
  rotate_left
  · intro w'
    go_simp
    with_reducible rfl
  rotate_left
  · simp only [Act.put, List.setIfInBounds_toArray, List.set_cons_zero, List.set_cons_succ, i64_w, i32_w]
    rfl
  refine take_ (i := 4) (N := some 24) (v := ?_) (a' := ?_) #[true, true, true, true, true, true, false, false, false, false, false, false] rfl rfl (by kernel_rfl) (fun _ _ _ h => h) (Or.inl ⟨by rfl, ?_⟩) hHeld ?_ ?_
  rotate_left
  · rintro w' ⟨s0, s1, s2, s3⟩
    go_simp
    with_reducible rfl
  rotate_left
  · simp only [Act.put, List.setIfInBounds_toArray, List.set_cons_zero, List.set_cons_succ, i64_w, i32_w]
    rfl
  refine one_ (i := 6) (N := some 26) #[true, true, true, true, true, true, true, false, false, false, false, false] rfl rfl (by kernel_rfl) (by decide) (fun K hK => ?_)
  refine goes_ Try.func59 (by kernel_rfl) rfl #[.slice Av l.length cv] (by rfl) rfl rfl (by simp only [List.map_toArray, List.map_cons, List.map_nil]; rfl) ?_
  with_reducible refine (copy_Extents Av cv l Hl.out _ hHeld.2.2.1).mono ?_
  rintro e w3 ⟨u, rfl, hu, hb⟩
  refine ⟨_, rfl, ?_⟩
  have HU := Aside0.mk hu
  obtain ⟨A3, c3, hue, _⟩ := Kd.R_reads hu
  subst hue
  have hb3 := below_step hHeld.2.1 hb
  have hu3 := (by rw [← hw2] at hb3; exact add_mid (by decide) HP.out HB1.out HG1.out hb3 : w3.ownsRow base 38 1 (.slice AU L.length nU) L.length us)
  have HU3 := Aside0.mk hu3
  have HB3 := Aside0.mk hb3
  have HK3 := Aside0.mk (hHeld.2.2.2.keep hb)
  clear hu hu3 hb3
  refine hK.out _ _ ⟨(keepP hb hHeld.1), (below_step hHeld.2.1 hb), (Kd.C_below hHeld.2.2.1 hb), ((hHeld.2.2.2).keep hb)⟩ (fun hHeld => ?_)
  clear hK K
  refine norm_ (a' := ?_) ?_ ?_
  rotate_left
  · show Act.put _ (some 26) _ = _
    simp only [Act.put, List.setIfInBounds_toArray, List.set_cons_zero, List.set_cons_succ, i64_w, i32_w]
    rfl
  refine one_ (i := 7) (N := some 27) #[true, true, true, true, true, true, true, true, false, false, false, false] rfl rfl (by kernel_rfl) (by decide) (fun K hK => ?_)
  refine value_ (w1 := ?_) (v := ?_) (by rfl) rfl ?_ ?_
  rotate_left 2
  · go_simp
    constructor
    · rfl
    · rfl
  refine hK.out _ _ ⟨(keep (below_alloc (Below.refl _ _) _) hHeld.1), (below_alloc hHeld.2.1 _), (Kd.C_below hHeld.2.2.1 (below_alloc (Below.refl _ _) _)), ((hHeld.2.2.2).alloc _)⟩ (fun hHeld => ?_)
  clear hK K
  refine norm_ (a' := ?_) ?_ ?_
  rotate_left
  · show Act.put _ (some 27) _ = _
    simp only [Act.put, List.setIfInBounds_toArray, List.set_cons_zero, List.set_cons_succ, i64_w, i32_w]
    rfl
  refine last_ (i := 8) (N := some 28) #[true, true, true, true, true, true, true, true, true, false, false, false] rfl rfl (by kernel_rfl) (by decide) (fun K hK => ?_)
  refine step_append_cells (w0 := w3) base (by rfl) (.tmp 24) (.tmp 27) 55 38 (.slice none 0 0) 1 24 (by rfl) Try.underlying55 ginfoLExtents (by rfl) (by decide) (by decide) (.slice AU L.length nU) L.length us [.slice A3 l.length c3] (by rfl) (by rfl) (by rfl) (by intro u hu; rw [List.mem_singleton.1 hu]; rfl) HU3.out (Below.refl _ _) (by have h1 := HB3.out.size; have h2 := HG1.out.size; have h3 := Hbase.out; have h4 : w2.heap.size = w1.heap.size := (by rw [← hw2]; simp [World.setCell]); omega) (by have := HLn.out; omega) ?_
  intro U1 w5 hU5 hW5 hG5 hA5
  obtain ⟨A5, n5, hU1e⟩ := row_slice hU5
  subst hU1e
  have HB5 := Aside0.mk (HK3.out.grownB hG5 (fun q => own_ne HU3.out HK3.out.hd (by decide) q.symm))
  have c5 : w5.cell? ⟨g, 7, none⟩ = some (.slice AU L.length nU) := HB5.out.cell (i := 7) rfl
  have f5 := HB5.out.frozen 7
  have HU5 := Aside0.mk hU5
  have HW5 := Aside0.mk hW5
  have HG5 := Aside0.mk hG5
  have HA5 := Aside0.mk hA5
  clear hU5 hW5 hG5 hA5
  refine hK.out _ _ ?_
  clear hK K
  refine norm_ (a' := ?_) ?_ ?_
  rotate_left
  · show Act.put _ (some 28) _ = _
    simp only [Act.put, List.setIfInBounds_toArray, List.set_cons_zero, List.set_cons_succ, i64_w, i32_w]
    rfl
  refine pure_ (i := 9) (N := some 29) (v := ?_) (a' := ?_) #[true, true, true, true, true, true, true, true, true, true, false, false] rfl rfl (by kernel_rfl) (fun _ _ _ h => h) (Or.inl ⟨by rfl, ?_⟩) ?_ ?_
  rotate_left
  · intro w'
    go_simp
    with_reducible rfl
  rotate_left
  · simp only [Act.put, List.setIfInBounds_toArray, List.set_cons_zero, List.set_cons_succ, i64_w, i32_w]
    rfl
  refine pure_ (i := 10) (N := some 30) (v := ?_) (a' := ?_) #[true, true, true, true, true, true, true, true, true, true, true, false] rfl rfl (by kernel_rfl) (fun _ _ _ h => h) (Or.inl ⟨by rfl, ?_⟩) ?_ ?_
  rotate_left
  · intro w'
    go_simp
    with_reducible rfl
  rotate_left
  · simp only [Act.put, List.setIfInBounds_toArray, List.set_cons_zero, List.set_cons_succ, i64_w, i32_w]
    rfl
  refine last_ (i := 11) (N := none) #[true, true, true, true, true, true, true, true, true, true, true, true] rfl rfl (by kernel_rfl) (by decide) (fun K hK => ?_)
  refine skip_ (w1 := ?_) (by rfl) rfl ?_ ?_
  rotate_left
  · go_simp
    rfl
  refine hK.out _ _ ?_
  clear hK K
  refine done_ (by kernel_rfl) ?_
  skip
  go_end0
  subst hw2
  obtain ⟨r1, r2, r3⟩ := add_done (tB := 60) (j1 := 6) (j2 := 7) rfl (by decide) (by decide) (by decide) HP.out HV.out Hn.out Hbase.out Hg.out hgl HB1.out HV1.out HW1.out HG1.out HA1.out HB3.out HU.out HB5.out HU5.out HW5.out HG5.out HA5.out
  exact ⟨rfl, _, _, _, HB5.out.set_ 7 _, r1, r2, r3⟩
end Go.Proofs.Ytacmfpkmcefcfaa.Hand
end
section
namespace Go.Proofs.Ytacmfpkmcefcfaa.Hand
open Go.RowKit Go.Proofs.YtacmfpkmcefcfaaW.PrintWords Go.Proofs.YtacmfpkmcefcfaaW.PrintLast Go.Proofs.YtacmfpkmcefcfaaW.PrintMore Go.Proofs.Ytacmfpkmcefcfaa.A
set_option linter.unusedVariables false
set_option linter.unusedSimpArgs false
/-- No block of a row is free. -/
def Taken (F : Nat → Prop) (x : Value) : Prop := ∀ k, x.ownBlock = some k → ¬ F k
/-- A book: its lists of ints, spans, extents. -/
def KeptAt (w : World) (base g : Nat) (F : Nat → Prop) (LI : List (List Int)) (LS : List (List S119)) (LE : List (List S96)) : Prop :=
  ∃ VI UI VS US VE UE vi ui vs us ve ue, Blk w g 60 (bookC VI UI VS US VE UE) ∧ base ≤ g ∧ Pile (Kd.int .i64) 3 75 w base VI UI vi ui LI ∧ Pile k119 119 128 w base VS US vs us LS ∧ Pile k96 96 38 w base VE UE ve ue LE ∧ (∀ x ∈ vi ++ ui, Taken F x) ∧ (∀ x ∈ vs ++ us, Taken F x) ∧ (∀ x ∈ ve ++ ue, Taken F x)
section
variable {w w1 : World} {base g : Nat} {F F' : Nat → Prop} {LI : List (List Int)} {LS : List (List S119)} {LE : List (List S96)}
theorem Taken.mono {x : Value} (h : Taken F x) (hF : ∀ k, F' k → F k) : Taken F' x := fun k hk hf => h k hk (hF k hf)
theorem KeptAt.mono (h : KeptAt w base g F LI LS LE) (hF : ∀ k, F' k → F k) : KeptAt w base g F' LI LS LE := by
  obtain ⟨VI, UI, VS, US, VE, UE, vi, ui, vs, us, ve, ue, hb, hg, h1, h2, h3, f1, f2, f3⟩ := h
  exact ⟨VI, UI, VS, US, VE, UE, vi, ui, vs, us, ve, ue, hb, hg, h1, h2, h3, fun x hx => (f1 x hx).mono hF, fun x hx => (f2 x hx).mono hF, fun x hx => (f3 x hx).mono hF⟩
theorem KeptAt.below (h : KeptAt w base g F LI LS LE) (hB : Below w.heap.size w w1) : KeptAt w1 base g F LI LS LE := by
  obtain ⟨VI, UI, VS, US, VE, UE, vi, ui, vs, us, ve, ue, hb, hg, h1, h2, h3, f⟩ := h
  exact ⟨VI, UI, VS, US, VE, UE, vi, ui, vs, us, ve, ue, hb.keep hB, hg, h1.below hB, h2.below hB, h3.below hB, f⟩
theorem KeptAt.keep (h : KeptAt w base g F LI LS LE) (hB : Below w.heap.size w w1) : KeptAt w1 base g F LI LS LE := h.below hB
theorem KeptAt.book (h : KeptAt w base g F LI LS LE) : ∃ cs, Blk w g 60 cs := by
  obtain ⟨VI, UI, VS, US, VE, UE, vi, ui, vs, us, ve, ue, hb, _⟩ := h
  exact ⟨_, hb⟩
theorem KeptAt.lt (h : KeptAt w base g F LI LS LE) : g < w.heap.size := by
  obtain ⟨cs, hb⟩ := h.book
  exact hb.lt
theorem KeptAt.ge (h : KeptAt w base g F LI LS LE) : base ≤ g := by
  obtain ⟨VI, UI, VS, US, VE, UE, vi, ui, vs, us, ve, ue, hb, hg, _⟩ := h
  exact hg
theorem pile_lt {α : Type} {d : Kd α} {e eL : Nat} {V U : Value} {vs us : List Value} {L : List (List α)} (h : Pile d e eL w base V U vs us L) : ∀ x ∈ vs ++ us, ∀ k, x.ownBlock = some k → base ≤ k ∧ k < w.heap.size := by
  intro x hx k hk
  rcases List.mem_append.1 hx with hx | hx
  · exact h.rv.lt hx hk
  · exact h.ru.lt hx hk
theorem KeptAt.top (h : KeptAt w base g F LI LS LE) : KeptAt w base g (fun k => w.heap.size ≤ k) LI LS LE := by
  obtain ⟨VI, UI, VS, US, VE, UE, vi, ui, vs, us, ve, ue, hb, hg, h1, h2, h3, f1, f2, f3⟩ := h
  exact ⟨VI, UI, VS, US, VE, UE, vi, ui, vs, us, ve, ue, hb, hg, h1, h2, h3, fun x hx k hk hf => by have := (pile_lt h1 x hx k hk).2; omega, fun x hx k hk hf => by have := (pile_lt h2 x hx k hk).2; omega, fun x hx k hk hf => by have := (pile_lt h3 x hx k hk).2; omega⟩
/-- Blocks of other types have turned. -/
theorem KeptAt.types (h : KeptAt w base g F LI LS LE) (hm : ∀ k cs t, (t = 3 ∨ t = 75 ∨ t = 119 ∨ t = 128 ∨ t = 96 ∨ t = 38 ∨ t = 60) → base ≤ k → Blk w k t cs → Blk w1 k t cs) : KeptAt w1 base g F LI LS LE := by
  obtain ⟨VI, UI, VS, US, VE, UE, vi, ui, vs, us, ve, ue, hb, hg, h1, h2, h3, f⟩ := h
  refine ⟨VI, UI, VS, US, VE, UE, vi, ui, vs, us, ve, ue, hm _ _ _ (by simp) hg hb, hg, h1.keepT rfl (fun k cs t hk ht hbk => ?_), h2.keepT rfl (fun k cs t hk ht hbk => ?_), h3.keepT rfl (fun k cs t hk ht hbk => ?_), f⟩
  · exact (hm k cs t (by rcases ht with rfl | rfl <;> simp) hbk hk).trans hk.symm
  · exact (hm k cs t (by rcases ht with rfl | rfl <;> simp) hbk hk).trans hk.symm
  · exact (hm k cs t (by rcases ht with rfl | rfl <;> simp) hbk hk).trans hk.symm
theorem KeptAt.only {g' t : Nat} {cs : Array Value} (h : KeptAt w base g F LI LS LE) (ho : Only w w1 g') (hb : Blk w g' t cs) (ht : t ≠ 3 ∧ t ≠ 75 ∧ t ≠ 119 ∧ t ≠ 128 ∧ t ≠ 96 ∧ t ≠ 38 ∧ t ≠ 60) : KeptAt w1 base g F LI LS LE := by
  refine h.types (fun k cs' t' ht' _ hk => hk.only ho (fun e => ?_))
  subst e
  have hq := hb.hd.symm.trans hk.hd
  injection hq with hq; injection hq with _ hq
  subst hq
  rcases ht' with h | h | h | h | h | h | h
  · exact ht.1 h
  · exact ht.2.1 h
  · exact ht.2.2.1 h
  · exact ht.2.2.2.1 h
  · exact ht.2.2.2.2.1 h
  · exact ht.2.2.2.2.2.1 h
  · exact ht.2.2.2.2.2.2 h
theorem KeptAt.new' (w : World) (base n : Nat) (hn : w.heap.size = n) (hb : base ≤ w.heap.size) : KeptAt (w.alloc (.cells (bookC (.slice none 0 0) (.slice none 0 0) (.slice none 0 0) (.slice none 0 0) (.slice none 0 0) (.slice none 0 0)) 60)) base n (fun k => (w.alloc (.cells (bookC (.slice none 0 0) (.slice none 0 0) (.slice none 0 0) (.slice none 0 0) (.slice none 0 0) (.slice none 0 0)) 60)).heap.size ≤ k) [] [] [] := by
  subst hn
  exact KeptAt.top (F := fun _ => True) ⟨_, _, _, _, _, _, [], [], [], [], [], [], Blk.new _ _ _, hb, Pile.nil _ _ _ _ _, Pile.nil _ _ _ _ _, Pile.nil _ _ _ _ _, by simp, by simp, by simp⟩
theorem KeptAt.new (w : World) (base : Nat) (hb : base ≤ w.heap.size) : KeptAt (w.alloc (.cells (bookC (.slice none 0 0) (.slice none 0 0) (.slice none 0 0) (.slice none 0 0) (.slice none 0 0) (.slice none 0 0)) 60)) base w.heap.size (fun _ => True) [] [] [] :=
  ⟨_, _, _, _, _, _, [], [], [], [], [], [], Blk.new _ _ _, hb, Pile.nil _ _ _ _ _, Pile.nil _ _ _ _ _, Pile.nil _ _ _ _ _, by simp, by simp, by simp⟩
/-- What a book's method leaves of the rest. -/
theorem BookFx.blkT {LT k t t' : Nat} {cs cs' : Array Value} (h : BookFx LT g base w w1) (hg : Blk w g t cs) (hb : Blk w k t' cs') (h1 : t' ≠ LT) (h2 : t' ≠ t) : Blk w1 k t' cs' :=
  h.blk hb h1 (fun e => by
    subst e
    have hq := hg.hd.symm.trans hb.hd
    injection hq with hq; injection hq with _ hq
    exact h2 hq.symm)
theorem BookFx.own {LT b e n m t : Nat} {v : Value} {xs : List Value} {cs : Array Value} (h : BookFx LT g base w w1) (hg : Blk w g t cs) (hv : w.ownsRow b e m v n xs) (h1 : e ≠ LT) (h2 : e ≠ t) : w1.ownsRow b e m v n xs :=
  own_move hv (fun k hk => by
    obtain ⟨cs', hc⟩ := own_typed hv k hk
    exact (h.blkT hg (show Blk w k e cs' from hc) h1 h2).trans hc.symm)
end
theorem BookFx.Rr {α : Type} {d : Kd α} {e LT g base B t : Nat} {w w1 : World} {v : Value} {l : List α} {cs : Array Value} (hE : d.E = []) (h : BookFx LT g base w w1) (hg : Blk w g t cs) (hv : Kd.R d e w B (fun _ => True) v l) (h1 : e ≠ LT) (h2 : e ≠ t) : Kd.R d e w1 B (fun _ => True) v l :=
  R_moved hE hv (fun k hk => by
    obtain ⟨cs', hc⟩ := Kd.R_typed hv k hk
    exact (h.blkT hg (show Blk w k e cs' from hc) h1 h2).trans hc.symm)
theorem taken_ne {F : Nat → Prop} {x v : Value} (h : Taken F x) (hv : ∀ k, v.ownBlock = some k → F k) : NeRow x v := fun k hk hk' => h k hk (hv k hk')
theorem kept_apart (g base : Nat) (F : Nat → Prop) (LI : List (List Int)) (LS : List (List S119)) (LE : List (List S96)) (w : World) (hk : KeptAt w base g F LI LS LE)
    (bI : LI.length ≤ 250 ∧ ∀ l ∈ LI, l.length ≤ 1000000) (bS : LS.length ≤ 250 ∧ ∀ l ∈ LS, l.length ≤ 1000000) (bE : LE.length ≤ 250 ∧ ∀ l ∈ LE, l.length ≤ 1000000) (hbase : base ≤ w.heap.size) :
    Calls Try.prog 37 #[.pointer (some ⟨g, 0, none⟩)] w fun e w' => e = .returned (.bool true) ∧ Below base w w' := by
  obtain ⟨VI, UI, VS, US, VE, UE, vi, ui, vs, us, ve, ue, hb, hg, h1, h2, h3, f1, f2, f3⟩ := hk
  exact apart g base VI UI VS US VE UE vi ui vs us ve ue LI LS LE w hb h1 h2 h3 ⟨bI.1, fun i l hl => bI.2 l (List.mem_of_getElem? hl)⟩ ⟨bS.1, fun i l hl => bS.2 l (List.mem_of_getElem? hl)⟩ ⟨bE.1, fun i l hl => bE.2 l (List.mem_of_getElem? hl)⟩ hbase
theorem kept_E (g base : Nat) (F : Nat → Prop) (LI : List (List Int)) (LS : List (List S119)) (LE : List (List S96)) (v : Value) (l : List S96) (w : World) (hk : KeptAt w base g F LI LS LE)
    (hv : Kd.R k96 96 w base (fun _ => True) v l) (hl : l.length ≤ 1000000) (hL : LE.length < 250) (hnv : ∀ k, v.ownBlock = some k → F k) (hbase : base ≤ w.heap.size) :
    Calls Try.prog 33 #[.pointer (some ⟨g, 0, none⟩), v] w fun e w' => e = .returned (.tuple #[]) ∧ KeptAt w' base g (fun k => (F k ∧ k < w.heap.size ∧ v.ownBlock ≠ some k) ∨ w'.heap.size ≤ k) LI LS (LE ++ [l]) ∧ BookFx 38 g base w w' := by
  obtain ⟨VI, UI, VS, US, VE, UE, vi, ui, vs, us, ve, ue, hb, hg, h1, h2, h3, f1, f2, f3⟩ := hk
  refine (add_Extents g base VI UI VS US VE UE ve ue LE v l w hb h3 hv hl hL (fun x hx => taken_ne (f3 x hx) hnv) hbase hg).mono ?_
  rintro e w' ⟨rfl, V', U', u, hb', hP', hu, hfx⟩
  have k1 : Pile (Kd.int .i64) 3 75 w' base VI UI vi ui LI := h1.keepT rfl (fun k cs t hk ht hbk => by
    refine hfx.2 k (Array.getElem?_eq_some_iff.1 hk).1 (fun e => ?_) (fun cs' hc => ?_)
    · subst e; rw [hb.hd] at hk; injection hk with hk; injection hk with _ hk; rcases ht with rfl | rfl <;> exact absurd hk (by decide)
    · rw [hk] at hc; injection hc with hc; injection hc with _ hc; rcases ht with rfl | rfl <;> exact absurd hc (by decide))
  have k2 : Pile k119 119 128 w' base VS US vs us LS := h2.keepT rfl (fun k cs t hk ht hbk => by
    refine hfx.2 k (Array.getElem?_eq_some_iff.1 hk).1 (fun e => ?_) (fun cs' hc => ?_)
    · subst e; rw [hb.hd] at hk; injection hk with hk; injection hk with _ hk; rcases ht with rfl | rfl <;> exact absurd hk (by decide)
    · rw [hk] at hc; injection hc with hc; injection hc with _ hc; rcases ht with rfl | rfl <;> exact absurd hc (by decide))
  have z : w.heap.size ≤ w'.heap.size := hfx.1.size
  refine ⟨rfl, ⟨VI, UI, VS, US, V', U', vi, ui, vs, us, ve ++ [v], ue ++ [u], hb', hg, k1, k2, hP', fun x hx k hk hf => ?_, fun x hx k hk hf => ?_, fun x hx k hk hf => ?_⟩, hfx⟩
  · rcases hf with hf | hf
    · exact f1 x hx k hk hf.1
    · have := (pile_lt k1 x hx k hk).2; omega
  · rcases hf with hf | hf
    · exact f2 x hx k hk hf.1
    · have := (pile_lt k2 x hx k hk).2; omega
  · rcases hf with hf | hf
    · have hx' : x ∈ ve ++ ue ∨ x = v ∨ x = u := by
        simp only [List.mem_append, List.mem_singleton] at hx ⊢
        rcases hx with (h | h) | (h | h)
        · exact .inl (.inl h)
        · exact .inr (.inl h)
        · exact .inl (.inr h)
        · exact .inr (.inr h)
      rcases hx' with hx' | rfl | rfl
      · exact f3 x hx' k hk hf.1
      · exact hf.2.2 hk
      · have := hu k hk; omega
    · have := (pile_lt hP' x hx k hk).2; omega
theorem same_E {B B' : Nat} (u v : Value) (T : List S96) (w : World) (hu : Kd.R k96 96 w B (fun _ => True) u T) (hv : Kd.R k96 96 w B' (fun _ => True) v T) (hT : T.length ≤ 1000000) :
    Calls Try.prog 34 #[u, v] w fun e w' => e = .returned (.bool true) ∧ Below w.heap.size w w' := by
  obtain ⟨A, c, rfl, hc, hC⟩ := Kd.R_reads hu
  obtain ⟨A', c', rfl, hc', hC'⟩ := Kd.R_reads hv
  refine (emulsionbook_SameExtents.calls (T.length + 1) A c T A' c' T true w hC hc hC' hc' (sameExtents_f T (by omega) _ (by omega))).mono ?_
  rintro e w' ⟨rfl, hd⟩
  exact ⟨rfl, drawnB hd⟩
end Go.Proofs.Ytacmfpkmcefcfaa.Hand
end
