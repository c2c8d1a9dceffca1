/- Parts of the proof for OctetsRead: MapsAll, ExtAll, Val, OutE. -/
import Derived.Deep.WholeRow
import Derived.BigQuiet
import Derived.Test.YtacmfpkmcefcfaaJOctetsRead4
import Derived.Test.YtacmfpkmcefcfaaJOctetsRead5
section
namespace Go.Proofs.Ytacmfpkmcefcfaa.Maps
open Go.RowKit Go.Proofs.YtacmfpkmcefcfaaW.PrintWords Go.Proofs.YtacmfpkmcefcfaaW.PrintLast Go.Proofs.YtacmfpkmcefcfaaW.PrintMore Go.Proofs.Ytacmfpkmcefcfaa.A Go.Proofs.Ytacmfpkmcefcfaa.Hand
set_option linter.unusedVariables false
set_option linter.unusedSimpArgs false
attribute [local go_sem] max2_int min2_int max_two min_two max_three min_three max_four min_four
def mapArr (m : List Int) : Array Value := (m.map (Value.int .i64)).toArray
theorem mapArr_get (m : List Int) (i : Nat) (h : i < m.length) : (mapArr m)[i]? = some (.int .i64 (m.getD i 0)) := by
  unfold mapArr
  rw [List.getElem?_toArray, List.getElem?_map, List.getElem?_eq_getElem h, List.getD_eq_getElem?_getD, List.getElem?_eq_getElem h]; rfl
theorem mapArr_size (m : List Int) : (mapArr m).size = m.length := by unfold mapArr; simp
theorem mapArr_one (m : List Int) : (mapArr m).all (·.oneCell') = true := by
  unfold mapArr
  rw [List.all_toArray, List.all_map, List.all_eq_true]
  intro b _; rfl
theorem infoM : (Try.prog.info? 99).map (·.size) = some 64 := by kernel_rfl
theorem mapArr_set (m : List Int) (i : Nat) (b : Int) : (mapArr m).setIfInBounds i (.int .i64 b) = mapArr (m.set i b) := by
  unfold mapArr
  rw [List.setIfInBounds_toArray, List.map_set]
def noneM : List Int := List.replicate 64 (-1)
theorem noneM_length : noneM.length = 64 := List.length_replicate
/-- May an extent be by itself? -/
def alone (x : S96) : Prop := 0 ≤ x.f0 ∧ 1 ≤ x.f1 ∧ x.f0 + x.f1 ≤ 64 ∧ 0 ≤ x.f2 ∧ (x.f2 = 0 ∨ x.f2 + x.f1 ≤ 61)
instance (x : S96) : Decidable (alone x) := by unfold alone; infer_instance
/-- The first so many blocks of an extent are as it says. -/
def stM (m : List Int) (f : Nat) (id : Int) : Nat → List Int
  | 0 => m
  | n + 1 => (stM m f id n).set (f + n) (if id > 0 then id + n else 0)
theorem stM_length (m : List Int) (f : Nat) (id : Int) : ∀ n, (stM m f id n).length = m.length
  | 0 => rfl
  | n + 1 => by rw [stM, List.length_set, stM_length m f id n]
def setM (m : List Int) (x : S96) : List Int := if alone x then stM m x.f0.toNat x.f2 x.f1.toNat else m
theorem setM_length (m : List Int) (x : S96) : (setM m x).length = m.length := by
  unfold setM; split
  · exact stM_length _ _ _ _
  · rfl
def ofM (l : List S96) : List Int := l.foldl setM noneM
theorem foldM_length (l : List S96) : ∀ m : List Int, (l.foldl setM m).length = m.length := by
  induction l with
  | nil => intro m; rfl
  | cons x l ih => intro m; exact (ih (setM m x)).trans (setM_length m x)
theorem ofM_length (l : List S96) : (ofM l).length = 64 := (foldM_length l noneM).trans noneM_length
theorem ofM_snoc (l : List S96) (i : Nat) (h : i < l.length) : ofM (l.take (i + 1)) = setM (ofM (l.take i)) (rd_T96 l i) := by
  unfold ofM
  rw [List.take_succ_eq_append_getElem h, List.foldl_append]
  show setM _ l[i] = setM _ (l.getD (i : Int).toNat z96)
  rw [Int.toNat_natCast, List.getD_eq_getElem?_getD, List.getElem?_eq_getElem h]; rfl
theorem ralone_eq (x : S96) : emulsionref1_Alone.f x.f0 x.f1 x.f2 = some (decide (alone x)) := by
  unfold emulsionref1_Alone.f emulsionref1_Whole.f
  obtain ⟨a, b, c⟩ := x
  have hA : alone ⟨a, b, c⟩ ↔ (0 ≤ a ∧ 1 ≤ b ∧ a + b ≤ 64 ∧ 0 ≤ c ∧ (c = 0 ∨ c + b ≤ 61)) := Iff.rfl
  simp only
  repeat' split
  all_goals (simp only [Option.bind_some, if_true, Bool.false_eq_true, if_false])
  all_goals (repeat' split)
  all_goals (try simp only [decide_eq_true_eq] at *)
  all_goals (try unfold wrap64 at *)
  all_goals first
    | (exfalso; omega)
    | (rw [decide_eq_true (hA.2 (by omega))])
    | (rw [decide_eq_false (fun h => by have := hA.1 h; omega)])
    | (congr 1; apply decide_eq_decide.2; rw [hA]; omega)
theorem rep_set (n i : Nat) (h : i < n) : (List.replicate i (-1 : Int) ++ List.replicate (n - i) 0).set i (-1) = List.replicate (i + 1) (-1) ++ List.replicate (n - (i + 1)) 0 := by
  rw [List.set_append_right _ _ (by simp)]
  simp only [List.length_replicate, Nat.sub_self]
  rw [show n - i = (n - (i + 1)) + 1 by omega, List.replicate_succ, List.set_cons_zero, List.replicate_succ', List.append_assoc]; rfl
set_option maxRecDepth 100000 in
set_option maxHeartbeats 1600000 in
theorem none_calls (w : World) : Calls Try.prog 103 #[] w fun e w' => e = .returned (.agg (mapArr noneM)) ∧ Below w.heap.size w w' := by
  go_enter Try.func103, Try.ntmps103
  go_wp2_with fail
  go_loopg [2] 64 (fun kq v wq => ∃ i : Nat, i + kq = 64 ∧ v = .int .i64 i ∧ Aside0 (Below w.heap.size w wq) ∧ Aside0 (Blk wq w.heap.size 99 (mapArr (List.replicate 64 0))) ∧ Aside0 (Blk wq (w.heap.size + 1) 99 (mapArr (List.replicate i (-1) ++ List.replicate (64 - i) 0))))
  case atStart =>
    refine ⟨0, by omega, rfl, ⟨by repeat (first | exact Below.refl _ _ | apply below_alloc)⟩, ⟨?_⟩, ⟨?_⟩⟩
    · exact (Blk.new w 99 (mapArr (List.replicate 64 0))).alloc _
    · exact Blk.new2 _ _ _ _
  case round =>
    obtain ⟨i, hi, rfl, HB, HX, HZ⟩ := hrel
    by_cases hlt : i < 64
    · obtain ⟨kk, rfl⟩ : ∃ q, gk = q + 1 := ⟨gk - 1, by omega⟩
      have hlt' : (i : Int) < 64 := by omega
      have hk0 : (0 : Int) ≤ (i : Int) := by omega
      have hcell : wr.cell? ⟨w.heap.size + 1, i, none⟩ = some (.int .i64 ((List.replicate i (-1) ++ List.replicate (64 - i) 0).getD i 0)) := HZ.out.cell (mapArr_get _ _ (by simp; omega))
      have hfroz : wr.frozen? ⟨w.heap.size + 1, i, none⟩ = false := HZ.out.frozen _
      go_wp2_with fail
      go_roundg kk
      case measure => omega
      case rel =>
        refine ⟨i + 1, by omega, by go_num, ⟨below_set HB.out (Nat.le_succ _)⟩, ⟨HX.out.far (by simp) _⟩, ⟨?_⟩⟩
        have h := HZ.out.set_ i (.int .i64 (-1))
        rwa [mapArr_set, rep_set 64 i hlt] at h
    · obtain rfl : i = 64 := by omega
      have e1 : Aside0 (Blk wr (w.heap.size + 1) 99 (mapArr noneM)) := ⟨by have := HZ.out; simpa [noneM] using this⟩
      clear HZ
      go_wp2_with (first | (with_reducible refine wpList_load_row rfl 99 (.tmp 1) rfl (w.heap.size + 1) rfl 99 _ (0, 0) _ e1.out.hd Try.underlying99 rfl (by rw [mapArr_size, noneM_length]; exact infoM) ?_) | (with_reducible refine wpList_store_row rfl 99 (.tmp 0) (.tmp 9) rfl w.heap.size (mapArr noneM) rfl rfl 99 (mapArr (List.replicate 64 0)) HX.out.hd (by rw [mapArr_size, noneM_length]; exact infoM) (by rw [mapArr_size, mapArr_size, noneM_length, List.length_replicate]) (mapArr_one _) ?_))
      have HZ2 : Blk (wr.setRow w.heap.size (mapArr noneM)) w.heap.size 99 (mapArr noneM) := setRow_heap _ _ _ _ _ _ HX.out.hd
      exact bodyPost_ret (v := .agg (mapArr noneM)) (results_cell_row rfl _ _ w.heap.size 99 _ (0, 0) _ rfl HZ2.hd Try.underlying99 rfl (by rw [mapArr_size, noneM_length]; exact infoM)) rfl ⟨rfl, below_setRow HB.out (by omega) _⟩
theorem Blk.new3 (w : World) (a b : Obj) (t : TypeId) (cs : Array Value) : Blk (((w.alloc a).alloc b).alloc (.cells cs t)) (w.heap.size + 2) t cs := by
  have h := Blk.new ((w.alloc a).alloc b) t cs
  simpa using h
theorem ext_ok {w : World} {A : Option Addr} {l : List S96} (h : Kd.C k96 w A l.length l) : (l.length : Int) ≤ 9223372036854775807 := by have := h.2.1; omega
set_option maxRecDepth 100000 in
set_option maxHeartbeats 1600000 in
theorem set_calls (m : List Int) (hm : m.length = 64) (x : S96) (w : World) :
    Calls Try.prog 104 #[.agg (mapArr m), .agg #[.int .i64 x.f0, .int .i64 x.f1, .int .i64 x.f2]] w fun e w' => e = .returned (.agg (mapArr (setM m x))) ∧ Below w.heap.size w w' := by
  have HM := Aside0.mk hm
  obtain ⟨F, M, D⟩ := x
  have hA := Aside0.mk (ralone_eq ⟨F, M, D⟩)
  have hS := Aside0.mk (show setM m ⟨F, M, D⟩ = if alone ⟨F, M, D⟩ then stM m F.toNat D M.toNat else m from rfl)
  clear hm
  by_cases ha : alone ⟨F, M, D⟩
  · rw [decide_eq_true ha, ] at hA
    rw [if_pos ha] at hS
    obtain ⟨f, rfl⟩ := Int.eq_ofNat_of_zero_le ha.1
    obtain ⟨n, rfl⟩ := Int.eq_ofNat_of_zero_le (show 0 ≤ M by have := ha.2.1; simp only at this; omega)
    have hfn : f + n ≤ 64 := by have := ha.2.2.1; simp only at this; omega
    have hd0 : 0 ≤ D := ha.2.2.2.1
    have hd1 : D ≤ 60 := by have := ha.2.2.2.2; have := ha.2.1; simp only at *; omega
    simp only [Int.toNat_natCast] at hS
    clear ha
    go_enter Try.func104, Try.ntmps104
    go_wp2_with fail
    go_loopg [5] n (fun kq v wq => ∃ k : Nat, k + kq = n ∧ v = .int .i64 k ∧ Aside0 (Below w.heap.size w wq) ∧ Aside0 (Blk wq w.heap.size 99 (mapArr (stM m f D k))) ∧ Aside0 (Blk wq (w.heap.size + 1) 96 #[.int .i64 (f : Int), .int .i64 (n : Int), .int .i64 D]) ∧ Aside0 (Blk wq (w.heap.size + 2) 99 (mapArr (List.replicate 64 0))))
    case atStart =>
      refine ⟨0, by omega, rfl, ⟨by repeat (first | exact Below.refl _ _ | apply below_alloc)⟩, ⟨?_⟩, ⟨?_⟩, ⟨?_⟩⟩
      · exact ((Blk.new w 99 (mapArr m)).alloc _).alloc _
      · exact (Blk.new2 w _ _ _).alloc _
      · exact Blk.new3 w _ _ _ _
    case round =>
      obtain ⟨k, hk, rfl, HB, HX, HE, HZ⟩ := hrel
      have y0 : wr.cell? ⟨w.heap.size + 1, 0, none⟩ = some (.int .i64 (f : Int)) := HE.out.cell rfl
      have y1 : wr.cell? ⟨w.heap.size + 1, 1, none⟩ = some (.int .i64 (n : Int)) := HE.out.cell rfl
      have y2 : wr.cell? ⟨w.heap.size + 1, 2, none⟩ = some (.int .i64 D) := HE.out.cell rfl
      go_wp2_with fail
      refine (emulsionref1_Alone.calls (f : Int) (n : Int) D true _ hA.out).mono ?_
      rintro e w1 ⟨rfl, hB⟩
      have HB2 : Aside0 (Below w.heap.size w w1) := ⟨below_step HB.out hB⟩
      have HX2 := Aside0.mk (HX.out.keep hB)
      have HE2 := Aside0.mk (HE.out.keep hB)
      have HZ2 := Aside0.mk (HZ.out.keep hB)
      replace y0 := keepP hB y0
      replace y1 := keepP hB y1
      replace y2 := keepP hB y2
      clear HB HX HE HZ hB
      have hf0 : (0 : Int) ≤ (f : Int) + (k : Int) := by omega
      by_cases hkm : k < n
      · have hkm' : (k : Int) < (n : Int) := by omega
        have hf1 : (f : Int) + (k : Int) < 64 := by omega
        have hcell : w1.cell? ⟨w.heap.size, f + k, none⟩ = some (.int .i64 ((stM m f D k).getD (f + k) 0)) := HX2.out.cell (mapArr_get _ _ (by rw [stM_length, HM.out]; omega))
        have hfroz : w1.frozen? ⟨w.heap.size, f + k, none⟩ = false := HX2.out.frozen _
        obtain ⟨ig, rfl⟩ : ∃ q, gk = q + 1 := ⟨gk - 1, by omega⟩
        by_cases hD : 0 < D
        · have hst : Aside0 (stM m f D (k + 1) = (stM m f D k).set (f + k) (D + k)) := ⟨by rw [stM, if_pos hD]⟩
          go_wp2_with fail
          go_roundg ig
          case measure => omega
          case rel =>
            refine ⟨k + 1, by omega, by go_num, ⟨by repeat (first | exact HB2.out | apply below_set _ (Nat.le_refl _))⟩, ⟨?_⟩, ⟨?_⟩, ⟨?_⟩⟩
            · rw [hst.out]
              have h := (HX2.out.set_ (f + k) (.int .i64 0)).set_ (f + k) (.int .i64 (D + k))
              rw [mapArr_set, mapArr_set, List.set_set] at h
              exact h
            · exact (HE2.out.far (by simp) _).far (by simp) _
            · exact (HZ2.out.far (by simp) _).far (by simp) _
        · have hst : Aside0 (stM m f D (k + 1) = (stM m f D k).set (f + k) 0) := ⟨by rw [stM, if_neg hD]⟩
          go_wp2_with fail
          go_roundg ig
          case measure => omega
          case rel =>
            refine ⟨k + 1, by omega, by go_num, ⟨by repeat (first | exact HB2.out | apply below_set _ (Nat.le_refl _))⟩, ⟨?_⟩, ⟨?_⟩, ⟨?_⟩⟩
            · rw [hst.out]
              have h := HX2.out.set_ (f + k) (.int .i64 0)
              rw [mapArr_set] at h
              exact h
            · exact HE2.out.far (by simp) _
            · exact HZ2.out.far (by simp) _
      · have hkm' : ¬ (k : Int) < (n : Int) := by omega
        obtain rfl : k = n := by omega
        rw [← hS.out] at HX2
        have hl : Aside0 ((setM m ⟨(f : Int), (k : Int), D⟩).length = 64) := ⟨by rw [setM_length, HM.out]⟩
        generalize hgen : setM m ⟨(f : Int), (k : Int), D⟩ = m' at *
        go_wp2_with (first | (with_reducible refine wpList_load_row rfl 99 (.tmp 2) rfl w.heap.size rfl 99 _ (0, 0) _ HX2.out.hd Try.underlying99 rfl (by rw [mapArr_size, hl.out]; exact infoM) ?_) | (with_reducible refine wpList_store_row rfl 99 (.tmp 4) (.tmp 33) rfl (w.heap.size + 2) (mapArr m') rfl rfl 99 (mapArr (List.replicate 64 0)) HZ2.out.hd (by rw [mapArr_size, hl.out]; exact infoM) (by rw [mapArr_size, mapArr_size, hl.out, List.length_replicate]) (mapArr_one _) ?_))
        have HZ3 : Blk (w1.setRow (w.heap.size + 2) (mapArr m')) (w.heap.size + 2) 99 (mapArr m') := setRow_heap _ _ _ _ _ _ HZ2.out.hd
        exact bodyPost_ret (v := .agg (mapArr m')) (results_cell_row rfl _ _ (w.heap.size + 2) 99 _ (0, 0) _ rfl HZ3.hd Try.underlying99 rfl (by rw [mapArr_size, hl.out]; exact infoM)) rfl ⟨by rw [hgen], below_setRow HB2.out (by omega) _⟩
  · rw [decide_eq_false ha] at hA
    rw [if_neg ha] at hS
    clear ha
    go_enter Try.func104, Try.ntmps104
    go_wp2_with fail
    go_loopg [5] 0 (fun kq v wq => v = .int .i64 0 ∧ Aside0 (Below w.heap.size w wq) ∧ Aside0 (Blk wq w.heap.size 99 (mapArr m)) ∧ Aside0 (Blk wq (w.heap.size + 1) 96 #[.int .i64 F, .int .i64 M, .int .i64 D]) ∧ Aside0 (Blk wq (w.heap.size + 2) 99 (mapArr (List.replicate 64 0))))
    case atStart =>
      refine ⟨rfl, ⟨by repeat (first | exact Below.refl _ _ | apply below_alloc)⟩, ⟨?_⟩, ⟨?_⟩, ⟨?_⟩⟩
      · exact ((Blk.new w 99 (mapArr m)).alloc _).alloc _
      · exact (Blk.new2 w _ _ _).alloc _
      · exact Blk.new3 w _ _ _ _
    case round =>
      obtain ⟨rfl, HB, HX, HE, HZ⟩ := hrel
      have y0 : wr.cell? ⟨w.heap.size + 1, 0, none⟩ = some (.int .i64 F) := HE.out.cell rfl
      have y1 : wr.cell? ⟨w.heap.size + 1, 1, none⟩ = some (.int .i64 M) := HE.out.cell rfl
      have y2 : wr.cell? ⟨w.heap.size + 1, 2, none⟩ = some (.int .i64 D) := HE.out.cell rfl
      go_wp2_with fail
      refine (emulsionref1_Alone.calls F M D false _ hA.out).mono ?_
      rintro e w1 ⟨rfl, hB⟩
      have HB2 : Aside0 (Below w.heap.size w w1) := ⟨below_step HB.out hB⟩
      have HX2 := Aside0.mk (HX.out.keep hB)
      have HZ2 := Aside0.mk (HZ.out.keep hB)
      clear HB HX HE HZ hB
      go_wp2_with (first | (with_reducible refine wpList_load_row rfl 99 (.tmp 2) rfl w.heap.size rfl 99 _ (0, 0) _ HX2.out.hd Try.underlying99 rfl (by rw [mapArr_size, HM.out]; exact infoM) ?_) | (with_reducible refine wpList_store_row rfl 99 (.tmp 4) (.tmp 33) rfl (w.heap.size + 2) (mapArr m) rfl rfl 99 (mapArr (List.replicate 64 0)) HZ2.out.hd (by rw [mapArr_size, HM.out]; exact infoM) (by rw [mapArr_size, mapArr_size, HM.out, List.length_replicate]) (mapArr_one _) ?_))
      have HZ3 : Blk (w1.setRow (w.heap.size + 2) (mapArr m)) (w.heap.size + 2) 99 (mapArr m) := setRow_heap _ _ _ _ _ _ HZ2.out.hd
      exact bodyPost_ret (v := .agg (mapArr m)) (results_cell_row rfl _ _ (w.heap.size + 2) 99 _ (0, 0) _ rfl HZ3.hd Try.underlying99 rfl (by rw [mapArr_size, HM.out]; exact infoM)) rfl ⟨by rw [hS.out], below_setRow HB2.out (by omega) _⟩
set_option maxRecDepth 100000 in
set_option maxHeartbeats 1600000 in
theorem of_calls (A : Option Addr) (c : Nat) (l : List S96) (w : World) (hr : Kd.C k96 w A l.length l) :
    Calls Try.prog 62 #[.slice A l.length c] w fun e w' => e = .returned (.agg (mapArr (ofM l))) ∧ Below w.heap.size w w' := by
  have HR := Aside0.mk hr
  have hl64 := ext_ok hr
  clear hr
  go_enter Try.func62, Try.ntmps62
  go_wp2_with fail
  refine (none_calls _).mono ?_
  rintro e w1 ⟨rfl, hB⟩
  have HX := Aside0.mk ((Blk.new w 99 (mapArr (List.replicate 64 0))).keep hB)
  have HB := Aside0.mk (below_step (below_alloc (Below.refl w.heap.size w) _) hB)
  have hlt0 := Aside0.mk (show w.heap.size < w1.heap.size by have := hB.size; simp at this; omega)
  clear hB
  go_wp2_with (with_reducible refine wpList_store_row rfl 99 (.tmp 3) (.tmp 5) rfl w1.heap.size (mapArr noneM) rfl rfl 99 (mapArr (List.replicate 64 0)) (heap_alloc_new _ _) (by rw [mapArr_size, noneM_length]; exact infoM) (by rw [mapArr_size, mapArr_size, noneM_length, List.length_replicate]) (mapArr_one _) ?_)
  rw [World.setRow_alloc_new]
  refine code_abs (fun X => Below w.heap.size w X ∧ Blk X w.heap.size 99 (mapArr (List.replicate 64 0)) ∧ Blk X w1.heap.size 99 (mapArr noneM)) ⟨below_alloc HB.out _, HX.out.alloc _, Blk.new _ _ _⟩ ?_
  rintro w2 ⟨hb, s1, s2⟩
  have HB2 := Aside0.mk hb
  have HX2 := Aside0.mk s1
  have HM2 := Aside0.mk s2
  clear hb s1 s2 HB HX
  generalize w1.heap.size = gm at *
  go_wp2_with fail
  go_loopg [4] l.length (fun kq v wq => ∃ i : Nat, i + kq = l.length ∧ v = .int .i64 (i : Int) ∧ Aside0 (Below w.heap.size w wq) ∧ Aside0 (Blk wq w.heap.size 99 (mapArr (List.replicate 64 0))) ∧ Aside0 (Blk wq gm 99 (mapArr (ofM (l.take i)))))
  case atStart => exact ⟨0, by omega, rfl, HB2, HX2, HM2⟩
  case round =>
    clear HB2 HX2 HM2
    obtain ⟨i, hi, rfl, HB, HX, HM⟩ := hrel
    have hlm := Aside0.mk (ofM_length (l.take i))
    by_cases hlt : i < l.length
    · have hlt' : (i : Int) < (l.length : Int) := by omega
      have hk0 : (0 : Int) ≤ (i : Int) := by omega
      obtain ⟨ad, e1, c0, c1, c2⟩ := at_T96 (Kd.C_below HR.out HB.out) (i : Int) (by omega) (by omega)
      subst e1
      rw [Int.toNat_natCast] at c0 c1 c2
      obtain ⟨ad', e1, z0, _, _⟩ := at_T96 HR.out (i : Int) (by omega) (by omega)
      cases e1
      have hone := Aside0.mk (ofM_snoc l i hlt)
      clear z0
      obtain ⟨kk, rfl⟩ : ∃ z, gk = z + 1 := ⟨gk - 1, by omega⟩
      generalize rd_T96 l (i : Int) = X at *
      obtain ⟨F, M, D⟩ := X
      simp only at c0 c1 c2
      generalize ofM (l.take i) = m at *
      have hls := Aside0.mk ((setM_length m ⟨F, M, D⟩).trans hlm.out)
      go_wp2_with fail
      refine start_ (n := 7) (S := fun w' => Below w.heap.size w w' ∧ Blk w' w.heap.size 99 (mapArr (List.replicate 64 0)) ∧ Blk w' gm 99 (mapArr m) ∧ w'.cell? (ad.add (i * 3)) = some (.int .i64 F) ∧ w'.cell? ⟨(ad.add (i * 3)).block, (ad.add (i * 3)).off + 1, none⟩ = some (.int .i64 M) ∧ w'.cell? ⟨(ad.add (i * 3)).block, (ad.add (i * 3)).off + 2, none⟩ = some (.int .i64 D)) (ds := [6]) #[false, false, false, false, false, false, false] (by kernel_rfl) rfl rfl ⟨(below_drew1 HB.out), (Blk.drew HX.out), (Blk.drew HM.out), c0, c1, c2⟩ (fun hHeld => ?_)
      refine pure_ (i := 1) (N := some 13) (v := ?_) (a' := ?_) #[false, true, false, false, false, false, false] rfl rfl (by kernel_rfl) (fun _ _ _ h => h) (Or.inl ⟨by rfl, ?_⟩) ?_ ?_
      rotate_left
      · intro w'
        go_simp
        with_reducible rfl
      rotate_left
      · simp only [Act.put, List.setIfInBounds_toArray, List.set_cons_zero, List.set_cons_succ, i64_w, i32_w]
        rfl
      refine pure_ (i := 2) (N := some 14) (v := ?_) (a' := ?_) #[false, true, true, false, false, false, false] rfl rfl (by kernel_rfl) (fun _ _ _ h => h) (Or.inl ⟨by rfl, ?_⟩) ?_ ?_
      rotate_left
      · intro w'
        go_simp
        with_reducible rfl
      rotate_left
      · simp only [Act.put, List.setIfInBounds_toArray, List.set_cons_zero, List.set_cons_succ, i64_w, i32_w]
        rfl
      refine pure_ (i := 3) (N := some 15) (v := ?_) (a' := ?_) #[false, true, true, true, false, false, false] rfl rfl (by kernel_rfl) (fun _ _ _ h => h) (Or.inl ⟨by rfl, ?_⟩) ?_ ?_
      rotate_left
      · intro w'
        go_simp
        with_reducible rfl
      rotate_left
      · simp only [Act.put, List.setIfInBounds_toArray, List.set_cons_zero, List.set_cons_succ, i64_w, i32_w]
        rfl
      refine take_ (i := 0) (N := some 12) (v := ?_) (a' := ?_) #[true, true, true, true, false, false, false] rfl rfl (by kernel_rfl) (fun _ _ _ h => h) (Or.inl ⟨by rfl, ?_⟩) hHeld ?_ ?_
      rotate_left
      · rintro w' ⟨s0, s1, s2, s3, s4, s5⟩
        refine row_yields 99 (.tmp 3) ?_ gm ?_ 99 (mapArr m) (0, 0) _ s2.hd Try.underlying99 rfl (by rw [mapArr_size, hlm.out]; exact infoM)
        · rfl
        · rfl
      rotate_left
      · simp only [Act.put, List.setIfInBounds_toArray, List.set_cons_zero, List.set_cons_succ, i64_w, i32_w]
        rfl
      refine take_ (i := 4) (N := some 16) (v := ?_) (a' := ?_) #[true, true, true, true, true, false, false] rfl rfl (by kernel_rfl) (fun _ _ _ h => h) (Or.inl ⟨by rfl, ?_⟩) hHeld ?_ ?_
      rotate_left
      · rintro w' ⟨s0, s1, s2, s3, s4, s5⟩
        go_simp
        with_reducible rfl
      rotate_left
      · simp only [Act.put, List.setIfInBounds_toArray, List.set_cons_zero, List.set_cons_succ, i64_w, i32_w]
        rfl
      refine one_ (i := 5) (N := some 17) #[true, true, true, true, true, true, false] rfl rfl (by kernel_rfl) (by decide) (fun K hK => ?_)
      refine goes_ Try.func104 (by kernel_rfl) rfl #[.agg (mapArr m), .agg #[.int .i64 F, .int .i64 M, .int .i64 D]] (by rfl) rfl rfl (by simp only [List.map_toArray, List.map_cons, List.map_nil]; rfl) ?_
      with_reducible refine (set_calls m hlm.out ⟨F, M, D⟩ _).mono ?_
      rintro e w5 ⟨rfl, hb⟩
      refine ⟨_, rfl, ?_⟩
      refine hK.out _ _ ⟨(below_step hHeld.1 hb), (Blk.keep hHeld.2.1 hb), (Blk.keep hHeld.2.2.1 hb), (keepP hb hHeld.2.2.2.1), (keepP hb hHeld.2.2.2.2.1), (keepP hb hHeld.2.2.2.2.2)⟩ (fun hHeld => ?_)
      clear hK K
      refine norm_ (a' := ?_) ?_ ?_
      rotate_left
      · show Act.put _ (some 17) _ = _
        simp only [Act.put, List.setIfInBounds_toArray, List.set_cons_zero, List.set_cons_succ, i64_w, i32_w]
        rfl
      refine last_ (i := 6) (N := none) #[true, true, true, true, true, true, true] rfl rfl (by kernel_rfl) (by decide) (fun K hK => ?_)
      rw [if_pos (by rfl)]
      refine wp_store_row 99 (.tmp 3) (.tmp 17) (by rfl) gm (mapArr (setM m ⟨F, M, D⟩)) (by rfl) (by rfl) 99 (mapArr m) hHeld.2.2.1.hd (by rw [mapArr_size, hls.out]; exact infoM) (by rw [mapArr_size, mapArr_size, hls.out, hlm.out]) (mapArr_one _) ?_
      refine hK.out _ _ ?_
      clear hK K
      refine done_ (by kernel_rfl) ?_
      have hge : Aside0 (w.heap.size ≤ gm) := ⟨by have := hlt0.out; omega⟩
      have HB6 : Aside0 (Below w.heap.size w (w5.setRow gm (mapArr (setM m ⟨F, M, D⟩)))) := ⟨below_setRow hHeld.1 hge.out _⟩
      have HX6 := Aside0.mk (hHeld.2.1.rowFar (show w.heap.size ≠ gm by have := hlt0.out; omega) (mapArr (setM m ⟨F, M, D⟩)))
      have HM6 := Aside0.mk (hHeld.2.2.1.row (mapArr (setM m ⟨F, M, D⟩)))
      clear hHeld
      generalize w5.setRow gm (mapArr (setM m ⟨F, M, D⟩)) = w6 at *
      go_wp2_with fail
      go_roundg kk
      case measure => omega
      case rel => exact ⟨i + 1, by omega, by go_num, HB6, HX6, ⟨by rw [hone.out]; exact HM6.out⟩⟩
    · obtain rfl : i = l.length := by omega
      have hlt' : ¬ (l.length : Int) < (l.length : Int) := by omega
      rw [List.take_length] at HM hlm
      go_wp2_with (first | (with_reducible refine wpList_load_row rfl 99 (.tmp 3) rfl gm rfl 99 _ (0, 0) _ HM.out.hd Try.underlying99 rfl (by rw [mapArr_size, hlm.out]; exact infoM) ?_) | (with_reducible refine wpList_store_row rfl 99 (.tmp 2) (.tmp 18) rfl w.heap.size (mapArr (ofM l)) rfl rfl 99 (mapArr (List.replicate 64 0)) HX.out.hd (by rw [mapArr_size, hlm.out]; exact infoM) (by rw [mapArr_size, mapArr_size, hlm.out, List.length_replicate]) (mapArr_one _) ?_))
      have HZ3 : Blk (wr.setRow w.heap.size (mapArr (ofM l))) w.heap.size 99 (mapArr (ofM l)) := setRow_heap _ _ _ _ _ _ HX.out.hd
      exact bodyPost_ret (v := .agg (mapArr (ofM l))) (results_cell_row rfl _ _ w.heap.size 99 _ (0, 0) _ rfl HZ3.hd Try.underlying99 rfl (by rw [mapArr_size, hlm.out]; exact infoM)) rfl ⟨rfl, below_setRow HB.out (by omega) _⟩
end Go.Proofs.Ytacmfpkmcefcfaa.Maps
namespace Go.Proofs.Ytacmfpkmcefcfaa.Maps
open Go.RowKit Go.Proofs.YtacmfpkmcefcfaaW.PrintWords Go.Proofs.YtacmfpkmcefcfaaW.PrintLast Go.Proofs.YtacmfpkmcefcfaaW.PrintMore Go.Proofs.Ytacmfpkmcefcfaa.A Go.Proofs.Ytacmfpkmcefcfaa.Hand
set_option linter.unusedVariables false
set_option linter.unusedSimpArgs false
attribute [local go_sem] max2_int min2_int max_two min_two max_three min_three max_four min_four
/-- A row of extents of one's own. -/
abbrev ERow (w : World) (base : Nat) (v : Value) (l : List S96) : Prop := Kd.R k96 96 w base (fun _ => True) v l
/-- Is a block one with the block ahead of it? -/
def goesOn (p v : Int) : Prop := v = 0 ∧ p = 0 ∨ 0 < v ∧ 0 < p ∧ v = p + 1
instance (p v : Int) : Decidable (goesOn p v) := by unfold goesOn; infer_instance
def bump (x : S96) : S96 := ⟨x.f0, x.f1 + 1, x.f2⟩
def exStep (m : List Int) (acc : List S96) (k : Nat) : List S96 :=
  if m.getD k 0 < 0 then acc
  else if 0 < k ∧ goesOn (m.getD (k - 1) 0) (m.getD k 0) then acc.set (acc.length - 1) (bump (rd_T96 acc ((acc.length - 1 : Nat) : Int))) else acc ++ [⟨(k : Int), 1, m.getD k 0⟩]
def exN (m : List Int) (k : Nat) : List S96 := (List.range k).foldl (exStep m) []
def exM (m : List Int) : List S96 := exN m 64
theorem exN_succ (m : List Int) (k : Nat) : exN m (k + 1) = exStep m (exN m k) k := by unfold exN; rw [List.range_succ, List.foldl_append]; rfl
theorem exN_some (m : List Int) : ∀ k, 0 ≤ m.getD k 0 → 0 < (exN m (k + 1)).length
  | k, h => by
    rw [exN_succ]
    unfold exStep
    rw [if_neg (by omega)]
    split
    · rename_i hg
      rw [List.length_set]
      obtain ⟨j, rfl⟩ : ∃ j, k = j + 1 := ⟨k - 1, by omega⟩
      exact exN_some m j (by have := hg.2; unfold goesOn at this; simp only [Nat.add_sub_cancel] at this; omega)
    · rw [List.length_append]; simp
theorem exN_f1 (m : List Int) : ∀ k, ∀ x ∈ exN m k, 0 ≤ x.f1 ∧ x.f1 ≤ k
  | 0, x, h => by simp [exN] at h
  | k + 1, x, h => by
    have ih := exN_f1 m k
    rw [exN_succ] at h
    unfold exStep at h
    split at h
    · have := ih x h; omega
    · split at h
      · rename_i hg
        have hn : 0 < (exN m k).length := by
          obtain ⟨j, rfl⟩ : ∃ j, k = j + 1 := ⟨k - 1, by omega⟩
          exact exN_some m j (by have := hg.2; unfold goesOn at this; simp only [Nat.add_sub_cancel] at this; omega)
        rcases List.mem_or_eq_of_mem_set h with h | h
        · have := ih x h; omega
        · subst h
          have hm : rd_T96 (exN m k) (((exN m k).length - 1 : Nat) : Int) ∈ exN m k := by
            show (exN m k).getD _ _ ∈ _
            rw [Int.toNat_natCast, List.getD_eq_getElem?_getD, List.getElem?_eq_getElem (by omega)]
            exact List.getElem_mem _
          have := ih _ hm
          unfold bump
          simp only
          omega
      · rcases List.mem_append.1 h with h | h
        · have := ih x h; omega
        · simp only [List.mem_singleton] at h
          subst h
          simp only
          omega
theorem exN_length (m : List Int) : ∀ k, (exN m k).length ≤ k
  | 0 => by simp [exN]
  | k + 1 => by
    have ih := exN_length m k
    rw [exN_succ]
    unfold exStep
    split
    · omega
    · split
      · rw [List.length_set]; omega
      · rw [List.length_append]; simp only [List.length_cons, List.length_nil]; omega
/-- Entries as they are in a map. -/
def okM (m : List Int) : Prop := m.length = 64 ∧ ∀ j, -1 ≤ m.getD j 0 ∧ m.getD j 0 ≤ 60
theorem okM.step {m : List Int} (h : okM m) (k : Nat) (v : Int) (h0 : -1 ≤ v) (h1 : v ≤ 60) : okM (m.set k v) := by
  refine ⟨by rw [List.length_set]; exact h.1, fun j => ?_⟩
  rw [List.getD_eq_getElem?_getD, List.getElem?_set]
  split
  · split
    · exact ⟨h0, h1⟩
    · simp
  · have := h.2 j
    rw [List.getD_eq_getElem?_getD] at this
    exact this
theorem okM.none : okM noneM := ⟨noneM_length, fun j => by
  unfold noneM
  rw [List.getD_eq_getElem?_getD, List.getElem?_replicate]
  split <;> simp⟩
theorem okM.st {m : List Int} (h : okM m) (f : Nat) (id : Int) (n : Nat) (hid : id = 0 ∨ id + n ≤ 61) (h0 : 0 ≤ id) : ∀ k, k ≤ n → okM (stM m f id k)
  | 0, _ => h
  | k + 1, hk => by
    rw [stM]
    refine (okM.st h f id n hid h0 k (by omega)).step _ _ ?_ ?_
    · split <;> omega
    · split <;> omega
theorem okM.setM {m : List Int} (h : okM m) (x : S96) : okM (setM m x) := by
  unfold Maps.setM
  split
  · rename_i ha
    obtain ⟨a, b, c, d, e⟩ := ha
    exact h.st _ _ x.f1.toNat (by omega) d _ (Nat.le_refl _)
  · exact h
theorem okM.of (l : List S96) : okM (ofM l) := by
  unfold ofM
  have : ∀ (l : List S96) (m : List Int), okM m → okM (l.foldl Maps.setM m) := by
    intro l
    induction l with
    | nil => intro m h; exact h
    | cons x l ih => intro m h; exact ih _ (h.setM x)
  exact this l _ okM.none
set_option maxRecDepth 100000 in
set_option maxHeartbeats 3200000 in
theorem extents_calls (m : List Int) (hm : okM m) (w : World) :
    Calls Try.prog 63 #[.agg (mapArr m)] w fun e w' => ∃ v, e = .returned v ∧ ERow w' w.heap.size v (exM m) ∧ Below w.heap.size w w' := by
  have HM := Aside0.mk hm
  clear hm
  go_enter Try.func63, Try.ntmps63
  go_wp2_with fail
  go_loopg [3, 4] 64 (fun kq u v wq => ∃ k : Nat, k + kq = 64 ∧ v = .int .i64 (k : Int) ∧ Aside0 (Below w.heap.size w wq) ∧ Aside0 (ERow wq w.heap.size u (exN m k)) ∧ Aside0 (Blk wq w.heap.size 99 (mapArr m)))
  case atStart => exact ⟨0, by omega, rfl, ⟨below_alloc (Below.refl _ _) _⟩, ⟨Kd.R_nil _ _ _ _ _⟩, ⟨Blk.new w _ _⟩⟩
  case round =>
    obtain ⟨k, hk, rfl, HB, HR, HX⟩ := hrel
    rename_i u3
    by_cases hlt : k < 64
    · obtain ⟨kk, rfl⟩ : ∃ z, gk = z + 1 := ⟨gk - 1, by omega⟩
      have hk0 : (0 : Int) ≤ (k : Int) := by omega
      have hlt' : (k : Int) < 64 := by omega
      have hb := HM.out.2 k
      have hcell : wr.cell? ⟨w.heap.size, k, none⟩ = some (.int .i64 (m.getD k 0)) := HX.out.cell (mapArr_get _ _ (by rw [HM.out.1]; omega))
      have hsucc := Aside0.mk (exN_succ m k)
      unfold exStep at hsucc
      have hlen := Aside0.mk (exN_length m k)
      by_cases h0 : m.getD k 0 < 0
      · have hs : Aside0 (exN m (k + 1) = exN m k) := ⟨by rw [hsucc.out, if_pos h0]⟩
        clear hsucc
        generalize m.getD k 0 = v0 at *
        go_wp2_with fail
        go_roundg kk
        case measure => omega
        case rel => exact ⟨k + 1, by omega, by go_num, HB, ⟨by rw [hs.out]; exact HR.out⟩, HX⟩
      rw [if_neg h0] at hsucc
      by_cases hg : 0 < k ∧ goesOn (m.getD (k - 1) 0) (m.getD k 0)
      · rw [if_pos hg] at hsucc
        obtain ⟨j, rfl⟩ : ∃ j, k = j + 1 := ⟨k - 1, by omega⟩
        have hg' := hg.2
        clear hg
        simp only [Nat.add_sub_cancel] at hg'
        have hcj : wr.cell? ⟨w.heap.size, j, none⟩ = some (.int .i64 (m.getD j 0)) := HX.out.cell (mapArr_get _ _ (by rw [HM.out.1]; omega))
        have hne := exN_some m j (by unfold goesOn at hg'; omega)
        have hbj := HM.out.2 j
        have hf := Aside0.mk (exN_f1 m (j + 1))
        generalize exN m (j + 1) = acc at *
        obtain ⟨N, hN⟩ : ∃ N, acc.length = N + 1 := ⟨acc.length - 1, by omega⟩
        obtain ⟨g, cap, eu, hgb, hgl, _⟩ := Kd.R_form HR.out hne
        rw [hN] at eu
        subst eu
        simp only [hN, Nat.add_sub_cancel] at hsucc
        have hF := Aside0.mk (show 0 ≤ (rd_T96 acc (N : Int)).f1 ∧ (rd_T96 acc (N : Int)).f1 ≤ ((j + 1 : Nat) : Int) from hf.out _ (by
          show acc.getD _ _ ∈ _
          rw [Int.toNat_natCast, List.getD_eq_getElem?_getD, List.getElem?_eq_getElem (by omega)]
          exact List.getElem_mem _))
        have hge := Aside0.mk hgb
        have hL := Aside0.mk hN
        have hNb : (N : Int) < 64 := by have := hlen.out; omega
        clear hf hgb hgl hne hN
        have hkp : (0 : Int) < ((j : Int) + 1) := by omega
        have hkq : ((j + 1 : Nat) : Int) - 1 = (j : Int) := by omega
        generalize m.getD (j + 1) 0 = v0 at *
        generalize m.getD j 0 = p0 at *
        rcases hg' with ⟨rfl, rfl⟩ | ⟨g1, g2, rfl⟩
        · go_wp2_with fail
          go_quiet (fail)
          have HB2 := Aside0.mk (pw_below_drewN HB.out nq)
          have HR2 := Aside0.mk (Kd.R_drewN HR.out nq)
          have HX2 := Aside0.mk (HX.out.drewN nq)
          clear HB HR HX hcell hcj
          generalize hw2 : wr.drewN nq = w2 at HB2 HR2 HX2 ⊢
          clear hw2
          have hq0 : 0 ≤ (rd_T96 acc (N : Int)).f1 := hF.out.1
          have hq1 : (rd_T96 acc (N : Int)).f1 ≤ 64 := by have := hF.out.2; omega
          obtain ⟨ce, hcl, hM, hcc, hfr⟩ := Kd.R_elem HR2.out z96 (N : Int) (by omega) (by omega)
          obtain rfl := k96_openM hM
          have x1 : w2.cell? ⟨g, N * 3 + 1, none⟩ = some (.int .i64 (rd_T96 acc (N : Int)).f1) := hcc 1 _ rfl
          have f1 : w2.frozen? ⟨g, N * 3 + 1, none⟩ = false := hfr 1
          have HP : Aside0 (ERow (w2.setCell ⟨g, N * 3 + 1, none⟩ (.int .i64 ((rd_T96 acc (N : Int)).f1 + 1))) w.heap.size (.slice (some ⟨g, 0, none⟩) (N + 1) cap) (exN m (j + 1 + 1))) := ⟨by
            have h := (Kd.R_seg HR2.out (N : Int) (by omega) (by omega) (seg := [.int .i64 ((rd_T96 acc (N : Int)).f1 + 1)]) (j := 1) hcl hcc (show 2 ≤ 3 by decide) (x' := bump (rd_T96 acc (N : Int))) (k96_mkM _ _ _ (bump (rd_T96 acc (N : Int)))) (fun _ hk => hk)).1
            rw [Int.toNat_natCast, ← hsucc.out] at h
            exact h⟩
          have hgne : Aside0 (w.heap.size ≠ g) := ⟨fun e => Kd.R_ne HR2.out HX2.out.hd (by decide) (by rw [e]; rfl)⟩
          clear hcl hM hcc hfr
          generalize (rd_T96 acc (N : Int)).f1 = q1 at *
          go_wp2_with fail
          go_roundg kk
          case measure => omega
          case rel => exact ⟨j + 1 + 1, by omega, by go_num, ⟨below_set HB2.out hge.out⟩, HP, ⟨HX2.out.far hgne.out _⟩⟩
        · have e1 : (p0 + 1 == 0) = false := by rw [beq_eq_false_iff_ne]; omega
          go_wp2_with fail
          go_quiet (fail)
          have HB2 := Aside0.mk (pw_below_drewN HB.out nq)
          have HR2 := Aside0.mk (Kd.R_drewN HR.out nq)
          have HX2 := Aside0.mk (HX.out.drewN nq)
          clear HB HR HX hcell hcj
          generalize hw2 : wr.drewN nq = w2 at HB2 HR2 HX2 ⊢
          clear hw2
          have hq0 : 0 ≤ (rd_T96 acc (N : Int)).f1 := hF.out.1
          have hq1 : (rd_T96 acc (N : Int)).f1 ≤ 64 := by have := hF.out.2; omega
          obtain ⟨ce, hcl, hM, hcc, hfr⟩ := Kd.R_elem HR2.out z96 (N : Int) (by omega) (by omega)
          obtain rfl := k96_openM hM
          have x1 : w2.cell? ⟨g, N * 3 + 1, none⟩ = some (.int .i64 (rd_T96 acc (N : Int)).f1) := hcc 1 _ rfl
          have f1 : w2.frozen? ⟨g, N * 3 + 1, none⟩ = false := hfr 1
          have HP : Aside0 (ERow (w2.setCell ⟨g, N * 3 + 1, none⟩ (.int .i64 ((rd_T96 acc (N : Int)).f1 + 1))) w.heap.size (.slice (some ⟨g, 0, none⟩) (N + 1) cap) (exN m (j + 1 + 1))) := ⟨by
            have h := (Kd.R_seg HR2.out (N : Int) (by omega) (by omega) (seg := [.int .i64 ((rd_T96 acc (N : Int)).f1 + 1)]) (j := 1) hcl hcc (show 2 ≤ 3 by decide) (x' := bump (rd_T96 acc (N : Int))) (k96_mkM _ _ _ (bump (rd_T96 acc (N : Int)))) (fun _ hk => hk)).1
            rw [Int.toNat_natCast, ← hsucc.out] at h
            exact h⟩
          have hgne : Aside0 (w.heap.size ≠ g) := ⟨fun e => Kd.R_ne HR2.out HX2.out.hd (by decide) (by rw [e]; rfl)⟩
          clear hcl hM hcc hfr
          generalize (rd_T96 acc (N : Int)).f1 = q1 at *
          go_wp2_with fail
          go_roundg kk
          case measure => omega
          case rel => exact ⟨j + 1 + 1, by omega, by go_num, ⟨below_set HB2.out hge.out⟩, HP, ⟨HX2.out.far hgne.out _⟩⟩
      · rw [if_neg hg] at hsucc
        have hlb : (exN m k).length ≤ 64 := Nat.le_trans hlen.out (by omega)
        by_cases hk1 : k = 0
        · subst hk1
          rw [show ((0 : Nat) : Int) = 0 from rfl] at hsucc
          go_wp2_with fail
          go_quiet (fail)
          have HB2 := Aside0.mk (pw_below_drewN HB.out nq)
          have HR2 := Aside0.mk (Kd.R_drewN HR.out nq)
          have HX2 := Aside0.mk (HX.out.drewN nq)
          clear HB HR HX hcell
          generalize hw2 : wr.drewN nq = w2 at HB2 HR2 HX2 ⊢
          clear hw2
          have hcell := HX2.out.cell (mapArr_get m 0 (by rw [HM.out.1]; omega))
          obtain ⟨A0, c0, rfl, hlc, _⟩ := Kd.R_reads HR2.out
          generalize m.getD 0 0 = v0 at *
          go_wp2_with (at_builtin; refine Kd.R_append k96 (w0 := w) w.heap.size rfl (.tmp 62) (.tmp 68) 38 96 (.agg #[.int .i64 0, .int .i64 0, .int .i64 0]) 24 rfl Try.underlying38 info96 rfl (by decide) (by omega) (.slice A0 (exN m 0).length c0) (exN m 0) ⟨(0 : Int), 1, v0⟩ [.int .i64 (0 : Int), .int .i64 1, .int .i64 v0] (fun _ => True) (fun _ => False) rfl rfl (k96_mkM _ _ _ (⟨(0 : Int), 1, v0⟩ : S96)) (fun _ hk => hk.elim) (fun _ _ => trivial) HR2.out HB2.out HB2.out.size (by omega) ?_; intro v9 w9 hr9 hb9 hg9 hat9)
          have HX9 := Aside0.mk ((hg9.block w.heap.size HX2.out.lt (Kd.R_ne HR2.out HX2.out.hd (by decide))).trans HX2.out)
          have HR9 := Aside0.mk hr9
          have HB9 := Aside0.mk hb9
          clear hr9 hb9 hg9 hat9
          go_wp2_with fail
          go_roundg kk
          case measure => omega
          case rel => exact ⟨0 + 1, by omega, by go_num, HB9, ⟨by rw [hsucc.out]; exact HR9.out⟩, HX9⟩
        obtain ⟨j, rfl⟩ : ∃ j, k = j + 1 := ⟨k - 1, by omega⟩
        have hg' : ¬ goesOn (m.getD j 0) (m.getD (j + 1) 0) := fun h => hg ⟨by omega, by simp only [Nat.add_sub_cancel]; exact h⟩
        unfold goesOn at hg'
        clear hg
        have hcj : wr.cell? ⟨w.heap.size, j, none⟩ = some (.int .i64 (m.getD j 0)) := HX.out.cell (mapArr_get _ _ (by rw [HM.out.1]; omega))
        have hbj := HM.out.2 j
        have hkp : (0 : Int) < ((j : Int) + 1) := by omega
        have hgm := Aside0.mk (mapArr_get m (j + 1) (by rw [HM.out.1]; omega))
        generalize m.getD (j + 1) 0 = v0 at *
        generalize m.getD j 0 = p0 at *
        by_cases z1 : v0 = 0
        · have e1 : (p0 == 0) = false := by rw [beq_eq_false_iff_ne]; omega
          have e0 : (v0 == 0) = true := by rw [z1]; rfl
          have e3 : decide (0 < v0) = false := decide_eq_false (by omega)
          clear z1
          clear hg'
          go_wp2_with fail
          go_quiet (fail)
          have HB2 := Aside0.mk (pw_below_drewN HB.out nq)
          have HR2 := Aside0.mk (Kd.R_drewN HR.out nq)
          have HX2 := Aside0.mk (HX.out.drewN nq)
          clear HB HR HX hcell hcj
          generalize hw2 : wr.drewN nq = w2 at HB2 HR2 HX2 ⊢
          clear hw2
          have hcell := HX2.out.cell hgm.out
          obtain ⟨A0, c0, rfl, hlc, _⟩ := Kd.R_reads HR2.out
          go_wp2_with (at_builtin; refine Kd.R_append k96 (w0 := w) w.heap.size rfl (.tmp 62) (.tmp 68) 38 96 (.agg #[.int .i64 0, .int .i64 0, .int .i64 0]) 24 rfl Try.underlying38 info96 rfl (by decide) (by omega) (.slice A0 (exN m (j + 1)).length c0) (exN m (j + 1)) ⟨(((j + 1) : Nat) : Int), 1, v0⟩ [.int .i64 (((j + 1) : Nat) : Int), .int .i64 1, .int .i64 v0] (fun _ => True) (fun _ => False) rfl rfl (k96_mkM _ _ _ (⟨(((j + 1) : Nat) : Int), 1, v0⟩ : S96)) (fun _ hk => hk.elim) (fun _ _ => trivial) HR2.out HB2.out HB2.out.size (by omega) ?_; intro v9 w9 hr9 hb9 hg9 hat9)
          have HX9 := Aside0.mk ((hg9.block w.heap.size HX2.out.lt (Kd.R_ne HR2.out HX2.out.hd (by decide))).trans HX2.out)
          have HR9 := Aside0.mk hr9
          have HB9 := Aside0.mk hb9
          clear hr9 hb9 hg9 hat9
          go_wp2_with fail
          go_roundg kk
          case measure => omega
          case rel => exact ⟨(j + 1) + 1, by omega, by go_num, HB9, ⟨by rw [hsucc.out]; exact HR9.out⟩, HX9⟩
        by_cases z2 : 0 < p0
        · have e0 : (v0 == 0) = false := by rw [beq_eq_false_iff_ne]; omega
          have e2 : (0 : Int) < v0 := by omega
          have e1 : (v0 == p0 + 1) = false := by rw [beq_eq_false_iff_ne]; omega
          clear hg'
          go_wp2_with fail
          go_quiet (fail)
          have HB2 := Aside0.mk (pw_below_drewN HB.out nq)
          have HR2 := Aside0.mk (Kd.R_drewN HR.out nq)
          have HX2 := Aside0.mk (HX.out.drewN nq)
          clear HB HR HX hcell hcj
          generalize hw2 : wr.drewN nq = w2 at HB2 HR2 HX2 ⊢
          clear hw2
          have hcell := HX2.out.cell hgm.out
          obtain ⟨A0, c0, rfl, hlc, _⟩ := Kd.R_reads HR2.out
          go_wp2_with (at_builtin; refine Kd.R_append k96 (w0 := w) w.heap.size rfl (.tmp 62) (.tmp 68) 38 96 (.agg #[.int .i64 0, .int .i64 0, .int .i64 0]) 24 rfl Try.underlying38 info96 rfl (by decide) (by omega) (.slice A0 (exN m (j + 1)).length c0) (exN m (j + 1)) ⟨(((j + 1) : Nat) : Int), 1, v0⟩ [.int .i64 (((j + 1) : Nat) : Int), .int .i64 1, .int .i64 v0] (fun _ => True) (fun _ => False) rfl rfl (k96_mkM _ _ _ (⟨(((j + 1) : Nat) : Int), 1, v0⟩ : S96)) (fun _ hk => hk.elim) (fun _ _ => trivial) HR2.out HB2.out HB2.out.size (by omega) ?_; intro v9 w9 hr9 hb9 hg9 hat9)
          have HX9 := Aside0.mk ((hg9.block w.heap.size HX2.out.lt (Kd.R_ne HR2.out HX2.out.hd (by decide))).trans HX2.out)
          have HR9 := Aside0.mk hr9
          have HB9 := Aside0.mk hb9
          clear hr9 hb9 hg9 hat9
          go_wp2_with fail
          go_roundg kk
          case measure => omega
          case rel => exact ⟨(j + 1) + 1, by omega, by go_num, HB9, ⟨by rw [hsucc.out]; exact HR9.out⟩, HX9⟩
        · have e0 : (v0 == 0) = false := by rw [beq_eq_false_iff_ne]; omega
          have e2 : (0 : Int) < v0 := by omega
          have e3 : decide (0 < p0) = false := decide_eq_false z2
          clear hg'
          go_wp2_with fail
          go_quiet (fail)
          have HB2 := Aside0.mk (pw_below_drewN HB.out nq)
          have HR2 := Aside0.mk (Kd.R_drewN HR.out nq)
          have HX2 := Aside0.mk (HX.out.drewN nq)
          clear HB HR HX hcell hcj
          generalize hw2 : wr.drewN nq = w2 at HB2 HR2 HX2 ⊢
          clear hw2
          have hcell := HX2.out.cell hgm.out
          obtain ⟨A0, c0, rfl, hlc, _⟩ := Kd.R_reads HR2.out
          go_wp2_with (at_builtin; refine Kd.R_append k96 (w0 := w) w.heap.size rfl (.tmp 62) (.tmp 68) 38 96 (.agg #[.int .i64 0, .int .i64 0, .int .i64 0]) 24 rfl Try.underlying38 info96 rfl (by decide) (by omega) (.slice A0 (exN m (j + 1)).length c0) (exN m (j + 1)) ⟨(((j + 1) : Nat) : Int), 1, v0⟩ [.int .i64 (((j + 1) : Nat) : Int), .int .i64 1, .int .i64 v0] (fun _ => True) (fun _ => False) rfl rfl (k96_mkM _ _ _ (⟨(((j + 1) : Nat) : Int), 1, v0⟩ : S96)) (fun _ hk => hk.elim) (fun _ _ => trivial) HR2.out HB2.out HB2.out.size (by omega) ?_; intro v9 w9 hr9 hb9 hg9 hat9)
          have HX9 := Aside0.mk ((hg9.block w.heap.size HX2.out.lt (Kd.R_ne HR2.out HX2.out.hd (by decide))).trans HX2.out)
          have HR9 := Aside0.mk hr9
          have HB9 := Aside0.mk hb9
          clear hr9 hb9 hg9 hat9
          go_wp2_with fail
          go_roundg kk
          case measure => omega
          case rel => exact ⟨(j + 1) + 1, by omega, by go_num, HB9, ⟨by rw [hsucc.out]; exact HR9.out⟩, HX9⟩
    · obtain rfl : k = 64 := by omega
      go_wp2_with fail
      go_ret
      exact ⟨_, rfl, HR.out, HB.out⟩
end Go.Proofs.Ytacmfpkmcefcfaa.Maps
namespace Go.Proofs.Ytacmfpkmcefcfaa.Maps
open Go.RowKit Go.Proofs.YtacmfpkmcefcfaaW.PrintWords Go.Proofs.YtacmfpkmcefcfaaW.PrintLast Go.Proofs.YtacmfpkmcefcfaaW.PrintMore Go.Proofs.Ytacmfpkmcefcfaa.A Go.Proofs.Ytacmfpkmcefcfaa.Hand
set_option linter.unusedVariables false
set_option linter.unusedSimpArgs false
attribute [local go_sem] max2_int min2_int max_two min_two max_three min_three max_four min_four
end Go.Proofs.Ytacmfpkmcefcfaa.Maps
end
section
namespace Go.Proofs.Ytacmfpkmcefcfaa.ExtP
open Go.RowKit Go.Proofs.YtacmfpkmcefcfaaW.PrintWords Go.Proofs.YtacmfpkmcefcfaaW.PrintLast Go.Proofs.YtacmfpkmcefcfaaW.PrintMore Go.Proofs.Ytacmfpkmcefcfaa.A Go.Proofs.Ytacmfpkmcefcfaa.Hand Go.Proofs.Ytacmfpkmcefcfaa.Maps
set_option linter.unusedVariables false
set_option linter.unusedSimpArgs false
abbrev EX := S96
/-- Is an extent one with the next one? -/
def oneP (a b : EX) : Prop := a.f0 + a.f1 = b.f0 ∧ (a.f2 = 0 ∧ b.f2 = 0 ∨ 0 < a.f2 ∧ 0 < b.f2 ∧ b.f2 = a.f2 + a.f1)
instance (a b : EX) : Decidable (oneP a b) := by unfold oneP; infer_instance
/-- One more, on a list that lies turned round. -/
def addR : List EX → EX → List EX
  | [], x => [x]
  | a :: r, x => if oneP a x then ⟨a.f0, a.f1 + x.f1, a.f2⟩ :: r else x :: a :: r
/-- The blocks of an extent, one by one. -/
def unA (f id : Int) (n : Nat) : List EX := (List.range n).map fun (i : Nat) => ⟨f + i, 1, if id = 0 then 0 else id + i⟩
def un (x : EX) : List EX := unA x.f0 x.f2 x.f1.toNat
theorem unA_succ (f id : Int) (n : Nat) : unA f id (n + 1) = unA f id n ++ [⟨f + n, 1, if id = 0 then 0 else id + n⟩] := by
  unfold unA; rw [List.range_succ, List.map_append]; rfl
theorem split_n (r : List EX) (f id : Int) (hid : 0 ≤ id) : ∀ n : Nat, (unA f id (n + 1)).foldl addR r = addR r ⟨f, (n : Int) + 1, id⟩
  | 0 => by
    unfold unA
    simp
    by_cases h : id = 0
    · rw [if_pos h, h]
    · rw [if_neg h]
  | n + 1 => by
    rw [unA_succ, List.foldl_append, split_n r f id hid n]
    show addR (addR r _) _ = _
    have hc : (((n + 1 : Nat) : Int) + 1) = (n : Int) + 1 + 1 := by omega
    rw [hc]
    cases r with
    | nil =>
      show (if oneP _ _ then _ else _) = _
      rw [if_pos ⟨by simp, by
        simp only
        by_cases h : id = 0
        · left; exact ⟨h, by rw [if_pos h]⟩
        · right; exact ⟨by omega, by rw [if_neg h]; omega, by rw [if_neg h]; simp⟩⟩]
      rfl
    | cons a r =>
      show addR (if oneP a _ then _ else _) _ = (if oneP a _ then _ else _)
      have hiff : oneP a ⟨f, (n : Int) + 1, id⟩ ↔ oneP a ⟨f, (n : Int) + 1 + 1, id⟩ := Iff.rfl
      by_cases h1 : oneP a ⟨f, (n : Int) + 1, id⟩
      · rw [if_pos h1, if_pos (hiff.1 h1)]
        obtain ⟨h2, h3⟩ := h1
        simp only at h2 h3
        show (if oneP _ _ then _ else _) = _
        rw [if_pos ⟨by simp only; push_cast; omega, by
          simp only
          by_cases h : id = 0
          · left; rw [if_pos h]; exact ⟨by omega, rfl⟩
          · right; rw [if_neg h]; rcases h3 with h3 | h3 <;> exact ⟨by omega, by omega, by omega⟩⟩]
        simp only
        rw [Int.add_assoc a.f1]
      · rw [if_neg h1, if_neg (fun h => h1 (hiff.2 h))]
        show (if oneP _ _ then _ else _) = _
        rw [if_pos ⟨by simp, by
          simp only
          by_cases h : id = 0
          · left; exact ⟨h, by rw [if_pos h]⟩
          · right; exact ⟨by omega, by rw [if_neg h]; omega, by rw [if_neg h]; simp⟩⟩]
theorem split (r : List EX) (x : EX) (h1 : 1 ≤ x.f1) (h2 : 0 ≤ x.f2) : (un x).foldl addR r = addR r x := by
  obtain ⟨f, n, id⟩ := x
  obtain ⟨m, rfl⟩ : ∃ m : Nat, n = (m : Int) + 1 := ⟨(n - 1).toNat, by simp only at h1; omega⟩
  unfold un
  simp only
  rw [show ((m : Int) + 1).toNat = m + 1 by omega]
  exact split_n r f id h2 m
def Ul (l : List EX) : List EX := l.flatMap un
theorem split_l : ∀ (xs r : List EX), (∀ x ∈ xs, alone x) → (Ul xs).foldl addR r = xs.foldl addR r
  | [], r, _ => rfl
  | x :: xs, r, h => by
    have hx := h x List.mem_cons_self
    show (un x ++ Ul xs).foldl addR r = _
    rw [List.foldl_append, split r x hx.2.1 hx.2.2.2.1]
    exact split_l xs _ (fun y hy => h y (List.mem_cons_of_mem _ hy))
/-- What a list of units comes to. -/
def build (us : List EX) : List EX := (us.foldl addR []).reverse
theorem Ul_append (a b : List EX) : Ul (a ++ b) = Ul a ++ Ul b := by unfold Ul; rw [List.flatMap_append]
theorem Ul_one (x : EX) : Ul [x] = un x := by unfold Ul; simp
/-- Units: their blocks are themselves. -/
def isU (x : EX) : Prop := x.f1 = 1 ∧ alone x
/-- The units of a map, from its beginning. -/
def units (m : List Int) (k : Nat) : List EX := (List.range k).flatMap fun (j : Nat) => if m.getD j 0 < 0 then [] else [⟨(j : Int), 1, m.getD j 0⟩]
theorem units_succ (m : List Int) (k : Nat) : units m (k + 1) = units m k ++ (if m.getD k 0 < 0 then [] else [⟨(k : Int), 1, m.getD k 0⟩]) := by
  unfold units; rw [List.range_succ, List.flatMap_append]; simp
theorem units_isU {m : List Int} (hm : okM m) {k : Nat} (hk : k ≤ 64) : ∀ u ∈ units m k, isU u := by
  intro u hu
  unfold units at hu
  obtain ⟨j, hj, hu⟩ := List.mem_flatMap.1 hu
  have hj := List.mem_range.1 hj
  have hb := hm.2 j
  split at hu
  · cases hu
  · simp only [List.mem_singleton] at hu
    subst hu
    refine ⟨rfl, ?_⟩
    unfold alone
    simp only
    omega
/-- What is known of the last extent. -/
def lastOk (m : List Int) (k : Nat) (r : List EX) : Prop := ∀ a r', r = a :: r' → a.f0 + a.f1 ≤ k ∧ 0 ≤ a.f2 ∧ (a.f0 + a.f1 = k → 0 < k ∧ 0 ≤ m.getD (k - 1) 0 ∧ (a.f2 = 0 ↔ m.getD (k - 1) 0 = 0) ∧ (0 < a.f2 → a.f2 + a.f1 = m.getD (k - 1) 0 + 1))
theorem ex_units {m : List Int} (hm : okM m) : ∀ k : Nat, k ≤ 64 → exN m k = ((units m k).foldl addR []).reverse ∧ lastOk m k ((units m k).foldl addR []) ∧ (0 < k → 0 ≤ m.getD (k - 1) 0 → ∃ a r', (units m k).foldl addR [] = a :: r' ∧ a.f0 + a.f1 = k)
  | 0, _ => ⟨rfl, (fun a r' h => by cases h), (fun h => by omega)⟩
  | k + 1, hk => by
    obtain ⟨h1, h2, h3⟩ := ex_units hm k (by omega)
    rw [exN_succ, units_succ, List.foldl_append, h1]
    have hb := hm.2 k
    unfold exStep
    by_cases h0 : m.getD k 0 < 0
    · rw [if_pos h0, if_pos h0]
      refine ⟨rfl, fun a r' h => ?_, fun _ h => ?_⟩
      · have := h2 a r' h
        exact ⟨by push_cast; omega, this.2.1, fun he => by push_cast at he; omega⟩
      · simp only [Nat.add_sub_cancel] at h; omega
    rw [if_neg h0, if_neg h0]
    show _ ∧ lastOk m (k + 1) (addR ((units m k).foldl addR []) _) ∧ _
    generalize (units m k).foldl addR [] = r at *
    have hfold : List.foldl addR r [(⟨(k : Int), 1, m.getD k 0⟩ : EX)] = addR r ⟨(k : Int), 1, m.getD k 0⟩ := rfl
    rw [hfold]
    have hlast : lastOk m (k + 1) (addR r ⟨(k : Int), 1, m.getD k 0⟩) ∧ ∃ a r', addR r ⟨(k : Int), 1, m.getD k 0⟩ = a :: r' ∧ a.f0 + a.f1 = ((k + 1 : Nat) : Int) := by
      cases r with
      | nil =>
        refine ⟨fun a r' h => ?_, _, _, rfl, by simp⟩
        simp only [addR, List.cons.injEq] at h
        obtain ⟨rfl, rfl⟩ := h
        exact ⟨by simp, by simp only; omega, fun _ => ⟨by omega, by simp only [Nat.add_sub_cancel]; omega, by simp only [Nat.add_sub_cancel], fun _ => by simp only [Nat.add_sub_cancel]⟩⟩
      | cons b r =>
        have hb2 := h2 b r rfl
        show lastOk m (k + 1) (if oneP b ⟨(k : Int), 1, m.getD k 0⟩ then _ else _) ∧ ∃ (a : EX) (r' : List EX), (if oneP b ⟨(k : Int), 1, m.getD k 0⟩ then _ else _) = a :: r' ∧ a.f0 + a.f1 = ((k + 1 : Nat) : Int)
        split
        · rename_i hone
          obtain ⟨o1, o2⟩ := hone
          simp only at o1 o2
          refine ⟨fun a r' h => ?_, _, _, rfl, by simp only; push_cast; omega⟩
          simp only [List.cons.injEq] at h
          obtain ⟨rfl, rfl⟩ := h
          simp only [Nat.add_sub_cancel]
          refine ⟨by push_cast; omega, hb2.2.1, fun _ => ⟨by omega, by omega, by omega, by omega⟩⟩
        · refine ⟨fun a r' h => ?_, _, _, rfl, by simp⟩
          simp only [List.cons.injEq] at h
          obtain ⟨rfl, rfl⟩ := h
          exact ⟨by simp, by simp only; omega, fun _ => ⟨by omega, by simp only [Nat.add_sub_cancel]; omega, by simp only [Nat.add_sub_cancel], fun _ => by simp only [Nat.add_sub_cancel]⟩⟩
    refine ⟨?_, hlast.1, fun _ _ => hlast.2⟩
    clear hlast
    by_cases hg : 0 < k ∧ goesOn (m.getD (k - 1) 0) (m.getD k 0)
    · rw [if_pos hg]
      obtain ⟨hk0, hg⟩ := hg
      unfold goesOn at hg
      obtain ⟨a, r', hr', he⟩ := h3 hk0 (by clear h3 h2 h1; omega)
      clear h3
      subst hr'
      have hl := h2 a r' rfl
      have hl2 := hl.2.2 he
      have ho : oneP a ⟨(k : Int), 1, m.getD k 0⟩ := ⟨he, by simp only; omega⟩
      show _ = (if oneP a ⟨(k : Int), 1, m.getD k 0⟩ then _ else _ : List EX).reverse
      rw [if_pos ho, List.reverse_cons, List.reverse_cons, List.length_append, List.length_reverse]
      simp only [List.length_cons, List.length_nil, Nat.zero_add, Nat.add_sub_cancel]
      rw [List.set_append_right _ _ (by simp), List.length_reverse, Nat.sub_self, List.set_cons_zero]
      congr 2
      show bump ((r'.reverse ++ [a]).getD _ _) = _
      rw [Int.toNat_natCast, List.getD_eq_getElem?_getD, List.getElem?_append_right (by simp), List.length_reverse, Nat.sub_self]
      rfl
    · rw [if_neg hg]
      cases r with
      | nil => rfl
      | cons a r =>
        have hl := h2 a r rfl
        show _ = (if oneP a ⟨(k : Int), 1, m.getD k 0⟩ then _ else _ : List EX).reverse
        rw [if_neg, List.reverse_cons (a := (⟨(k : Int), 1, m.getD k 0⟩ : EX))]
        rintro ⟨o1, o2⟩
        simp only at o1 o2
        have hl2 := hl.2.2 o1
        exact hg ⟨hl2.1, by unfold goesOn; omega⟩
def um (m : List Int) : List EX := units m 64
theorem exM_build {m : List Int} (hm : okM m) : exM m = build (um m) := (ex_units hm 64 (Nat.le_refl _)).1
theorem um_isU {m : List Int} (hm : okM m) : ∀ u ∈ um m, isU u := units_isU hm (Nat.le_refl _)
theorem exM_length (m : List Int) : (exM m).length ≤ 64 := exN_length m 64
end Go.Proofs.Ytacmfpkmcefcfaa.ExtP
namespace Go.Proofs.Ytacmfpkmcefcfaa.ExtP
open Go.RowKit Go.Proofs.YtacmfpkmcefcfaaW.PrintWords Go.Proofs.YtacmfpkmcefcfaaW.PrintLast Go.Proofs.YtacmfpkmcefcfaaW.PrintMore Go.Proofs.Ytacmfpkmcefcfaa.A Go.Proofs.Ytacmfpkmcefcfaa.Hand Go.Proofs.Ytacmfpkmcefcfaa.Maps
set_option linter.unusedVariables false
set_option linter.unusedSimpArgs false
theorem one_eq (a x : EX) (ha : alone a) : extent_one.f a.f0 a.f1 a.f2 x.f0 x.f1 x.f2 = some (decide (oneP a x)) := by
  obtain ⟨a1, a2, a3, a4, a5⟩ := ha
  have hO : oneP a x ↔ (a.f0 + a.f1 = x.f0 ∧ (a.f2 = 0 ∧ x.f2 = 0 ∨ 0 < a.f2 ∧ 0 < x.f2 ∧ x.f2 = a.f2 + a.f1)) := Iff.rfl
  unfold extent_one.f extent_own.f
  rw [Option.bind_some, end_yes a1 a2 a3, Option.bind_some]
  by_cases h1 : a.f0 + a.f1 = x.f0
  · rw [if_pos h1]
    by_cases h2 : a.f2 = 0
    · rw [if_pos h2]
      congr 1
      rw [Bool.eq_iff_iff, beq_iff_eq, decide_eq_true_eq, hO]
      omega
    · rw [if_neg h2]
      by_cases h3 : x.f2 > 0
      · rw [if_pos h3, w_id (by omega) (by omega)]
        congr 1
        rw [Bool.eq_iff_iff, beq_iff_eq, decide_eq_true_eq, hO]
        omega
      · rw [if_neg h3, decide_eq_false (fun h => by have := hO.1 h; omega)]
  · rw [if_neg h1, decide_eq_false (fun h => h1 (hO.1 h).1)]
end Go.Proofs.Ytacmfpkmcefcfaa.ExtP
namespace Go.Proofs.Ytacmfpkmcefcfaa.ExtP
open Go.RowKit Go.Proofs.YtacmfpkmcefcfaaW.PrintWords Go.Proofs.YtacmfpkmcefcfaaW.PrintLast Go.Proofs.YtacmfpkmcefcfaaW.PrintMore Go.Proofs.Ytacmfpkmcefcfaa.A Go.Proofs.Ytacmfpkmcefcfaa.Hand Go.Proofs.Ytacmfpkmcefcfaa.Maps
set_option linter.unusedVariables false
set_option linter.unusedSimpArgs false
theorem rdT_at (l : List EX) (i : Nat) (h : i < l.length) : rd_T96 l (i : Int) = l[i] := by
  show l.getD _ _ = _
  rw [Int.toNat_natCast, List.getD_eq_getElem?_getD, List.getElem?_eq_getElem h]; rfl
theorem single_eq (x : EX) : extent_single.f x.f0 x.f1 x.f2 = some (decide (alone x)) := by
  have hA : alone x ↔ (0 ≤ x.f0 ∧ 1 ≤ x.f1 ∧ x.f0 + x.f1 ≤ 64 ∧ 0 ≤ x.f2 ∧ (x.f2 = 0 ∨ x.f2 + x.f1 ≤ 61)) := Iff.rfl
  unfold extent_single.f extent_own.f span_Valid.f
  rw [Option.bind_some]
  simp only
  rw [whole_eq, Option.bind_some]
  by_cases hw : wh x.f0 x.f1
  · obtain ⟨w1, w2, w3⟩ := hw
    rw [if_pos (decide_eq_true ⟨w1, w2, w3⟩), w_id (by omega) (by omega), Option.bind_some, if_pos (decide_eq_true w3)]
    by_cases h1 : x.f2 = 0
    · rw [if_pos h1, decide_eq_true (hA.2 (by omega))]
    · rw [if_neg h1]
      by_cases h2 : x.f2 ≥ 1
      · rw [if_pos h2]
        by_cases h3 : x.f2 ≤ 60
        · rw [if_pos h3, w_id (by omega) (by omega)]
          congr 1
          rw [decide_eq_decide, hA]
          omega
        · rw [if_neg h3, decide_eq_false (fun h => by have := hA.1 h; omega)]
      · rw [if_neg h2, decide_eq_false (fun h => by have := hA.1 h; omega)]
  · rw [if_neg (by rw [decide_eq_true_eq]; exact hw), Option.bind_some, if_neg (by decide), decide_eq_false (fun h => hw (by have := hA.1 h; exact ⟨this.1, this.2.1, this.2.2.1⟩))]
end Go.Proofs.Ytacmfpkmcefcfaa.ExtP
namespace Go.Proofs.Ytacmfpkmcefcfaa.ExtP
open Go.RowKit Go.Proofs.YtacmfpkmcefcfaaW.PrintWords Go.Proofs.YtacmfpkmcefcfaaW.PrintLast Go.Proofs.YtacmfpkmcefcfaaW.PrintMore Go.Proofs.Ytacmfpkmcefcfaa.A Go.Proofs.Ytacmfpkmcefcfaa.Hand Go.Proofs.Ytacmfpkmcefcfaa.Maps
set_option linter.unusedVariables false
set_option linter.unusedSimpArgs false
/-- A map, told block by block. -/
def mk (f : Nat → Int) : List Int := (List.range 64).map f
theorem units_congr {m m' : List Int} {k : Nat} (h : ∀ j, j < k → m.getD j 0 = m'.getD j 0) : units m k = units m' k := by
  induction k with
  | zero => rfl
  | succ k ih => rw [units_succ, units_succ, ih (fun j hj => h j (by omega)), h k (by omega)]
theorem stM_get (m : List Int) (hm : m.length = 64) (f : Nat) (id : Int) : ∀ n, f + n ≤ 64 → ∀ k, k < 64 → (stM m f id n).getD k 0 = if f ≤ k ∧ k < f + n then (if id > 0 then id + ((k - f : Nat) : Int) else 0) else m.getD k 0
  | 0, _, k, _ => by rw [if_neg (by omega)]; rfl
  | n + 1, hn, k, hk => by
    rw [Maps.stM, List.getD_eq_getElem?_getD, List.getElem?_set]
    by_cases h : f + n = k
    · subst h
      have hc : f ≤ f + n ∧ f + n < f + (n + 1) := by omega
      rw [if_pos rfl, if_pos (by rw [stM_length]; omega), if_pos hc, show f + n - f = n by omega]; rfl
    · rw [if_neg h, ← List.getD_eq_getElem?_getD, stM_get m hm f id n (by omega) k hk]
      by_cases h2 : f ≤ k ∧ k < f + n
      · have hc : f ≤ k ∧ k < f + (n + 1) := by omega
        rw [if_pos h2, if_pos hc]
      · have hc : ¬ (f ≤ k ∧ k < f + (n + 1)) := by omega
        rw [if_neg h2, if_neg hc]
theorem setM_get (m : List Int) (hm : m.length = 64) (x : EX) (hx : alone x) (k : Nat) (hk : k < 64) : (setM m x).getD k 0 = if x.f0 ≤ k ∧ (k : Int) < x.f0 + x.f1 then (if x.f2 > 0 then x.f2 + (k - x.f0) else 0) else m.getD k 0 := by
  have hx' := hx
  obtain ⟨x1, x2, x3, x4, x5⟩ := hx'
  unfold setM
  rw [if_pos hx, stM_get m hm _ _ _ (by omega) k hk]
  by_cases h : x.f0 ≤ k ∧ (k : Int) < x.f0 + x.f1
  · rw [if_pos h, if_pos (by omega)]
    split <;> omega
  · rw [if_neg h, if_neg (by omega)]
theorem units_app (m : List Int) (a : Nat) : ∀ b, units m (a + b) = units m a ++ (List.range b).flatMap fun (j : Nat) => if m.getD (a + j) 0 < 0 then [] else [(⟨((a + j : Nat) : Int), 1, m.getD (a + j) 0⟩ : EX)]
  | 0 => by simp
  | b + 1 => by rw [← Nat.add_assoc, units_succ, units_app m a b, List.range_succ, List.flatMap_append, List.append_assoc]; simp
theorem filter_all {p : EX → Bool} {l : List EX} (h : ∀ u ∈ l, p u = true) : l.filter p = l := List.filter_eq_self.2 h
theorem filter_none {p : EX → Bool} {l : List EX} (h : ∀ u ∈ l, p u = false) : l.filter p = [] := by
  rw [List.filter_eq_nil_iff]
  intro u hu
  rw [h u hu]; decide
theorem units_f0 (m : List Int) (k : Nat) : ∀ u ∈ units m k, 0 ≤ u.f0 ∧ u.f0 < k ∧ u.f2 = m.getD u.f0.toNat 0 ∧ 0 ≤ u.f2 := by
  intro u hu
  unfold units at hu
  obtain ⟨j, hj, hu⟩ := List.mem_flatMap.1 hu
  have hj := List.mem_range.1 hj
  split at hu
  · cases hu
  · simp only [List.mem_singleton] at hu
    subst hu
    simp only [Int.toNat_natCast]
    exact ⟨by omega, by omega, trivial, by omega⟩
/-- The units of a map in which an extent was set. -/
theorem um_set {m : List Int} (hm : okM m) (x : EX) (hx : alone x) : um (setM m x) = (um m).filter (fun u => decide (u.f0 < x.f0)) ++ un x ++ (um m).filter (fun u => decide (x.f0 + x.f1 ≤ u.f0)) := by
  have hx' := hx
  obtain ⟨f, n, id⟩ := x
  obtain ⟨x1, x2, x3, x4, x5⟩ := hx'
  simp only at x1 x2 x3 x4 x5 ⊢
  obtain ⟨p, rfl⟩ := Int.eq_ofNat_of_zero_le x1
  obtain ⟨q, rfl⟩ := Int.eq_ofNat_of_zero_le (show 0 ≤ n by omega)
  obtain ⟨t, ht⟩ : ∃ t : Nat, p + (q + t) = 64 := ⟨64 - p - q, by omega⟩
  have hget := setM_get m hm.1 ⟨(p : Int), (q : Int), id⟩ hx
  simp only at hget
  have hpq := units_app (setM m ⟨(p : Int), (q : Int), id⟩) (p + q) t
  have hp := units_app (setM m ⟨(p : Int), (q : Int), id⟩) p q
  have gpq := units_app m (p + q) t
  have gp := units_app m p q
  have e64 : p + q + t = 64 := by omega
  unfold um
  rw [← e64, hpq, hp, gpq, gp]
  have s1 : units (setM m ⟨(p : Int), (q : Int), id⟩) p = units m p := units_congr fun j hj => by rw [hget j (by omega), if_neg (by omega)]
  have s2 : ((List.range q).flatMap fun (j : Nat) => if (setM m ⟨(p : Int), (q : Int), id⟩).getD (p + j) 0 < 0 then [] else [(⟨((p + j : Nat) : Int), 1, (setM m ⟨(p : Int), (q : Int), id⟩).getD (p + j) 0⟩ : EX)]) = un ⟨(p : Int), (q : Int), id⟩ := by
    unfold un unA
    simp only [Int.toNat_natCast]
    have : ∀ b, b ≤ q → ((List.range b).flatMap fun (j : Nat) => if (setM m ⟨(p : Int), (q : Int), id⟩).getD (p + j) 0 < 0 then [] else [(⟨((p + j : Nat) : Int), 1, (setM m ⟨(p : Int), (q : Int), id⟩).getD (p + j) 0⟩ : EX)]) = (List.range b).map fun (i : Nat) => (⟨(p : Int) + i, 1, if id = 0 then 0 else id + i⟩ : EX) := by
      intro b
      induction b with
      | zero => intro _; rfl
      | succ b ih =>
        intro hb
        rw [List.range_succ, List.flatMap_append, List.map_append, ih (by omega)]
        congr 1
        simp only [List.flatMap_cons, List.flatMap_nil, List.append_nil, List.map_cons, List.map_nil]
        have hg := hget (p + b) (by omega)
        rw [if_pos (show (p : Int) ≤ ((p + b : Nat) : Int) ∧ ((p + b : Nat) : Int) < (p : Int) + (q : Int) by omega)] at hg
        rw [hg]
        by_cases h0 : id = 0
        · subst h0
          simp
        · have h1 : id > 0 := by omega
          rw [if_pos h1]
          have h2 : ¬ (id + (((p + b : Nat) : Int) - (p : Int)) < 0) := by omega
          rw [if_neg h2, if_neg h0]
          congr 2
          omega
    exact this q (Nat.le_refl _)
  have s3 : ((List.range t).flatMap fun (j : Nat) => if (setM m ⟨(p : Int), (q : Int), id⟩).getD (p + q + j) 0 < 0 then [] else [(⟨((p + q + j : Nat) : Int), 1, (setM m ⟨(p : Int), (q : Int), id⟩).getD (p + q + j) 0⟩ : EX)]) = ((List.range t).flatMap fun (j : Nat) => if m.getD (p + q + j) 0 < 0 then [] else [(⟨((p + q + j : Nat) : Int), 1, m.getD (p + q + j) 0⟩ : EX)]) := by
    have : ∀ b, b ≤ t → ((List.range b).flatMap fun (j : Nat) => if (setM m ⟨(p : Int), (q : Int), id⟩).getD (p + q + j) 0 < 0 then [] else [(⟨((p + q + j : Nat) : Int), 1, (setM m ⟨(p : Int), (q : Int), id⟩).getD (p + q + j) 0⟩ : EX)]) = ((List.range b).flatMap fun (j : Nat) => if m.getD (p + q + j) 0 < 0 then [] else [(⟨((p + q + j : Nat) : Int), 1, m.getD (p + q + j) 0⟩ : EX)]) := by
      intro b
      induction b with
      | zero => intro _; rfl
      | succ b ih =>
        intro hb
        rw [List.range_succ, List.flatMap_append, List.flatMap_append, ih (by omega)]
        simp only [List.flatMap_cons, List.flatMap_nil]
        rw [hget (p + q + b) (by omega), if_neg (show ¬ ((p : Int) ≤ ((p + q + b : Nat) : Int) ∧ ((p + q + b : Nat) : Int) < (p : Int) + (q : Int)) by omega)]
    exact this t (Nat.le_refl _)
  rw [s1, s2, s3]
  have mid : ∀ (a b : Nat), ∀ u ∈ ((List.range b).flatMap fun (j : Nat) => if m.getD (a + j) 0 < 0 then [] else [(⟨((a + j : Nat) : Int), 1, m.getD (a + j) 0⟩ : EX)]), (a : Int) ≤ u.f0 ∧ u.f0 < a + b := by
    intro a b u hu
    obtain ⟨j, hj, hu⟩ := List.mem_flatMap.1 hu
    have hj := List.mem_range.1 hj
    split at hu
    · cases hu
    · simp only [List.mem_singleton] at hu
      subst hu
      simp only
      omega
  rw [List.filter_append, List.filter_append, List.filter_append, List.filter_append]
  rw [filter_all (l := units m p) (p := fun u => decide (u.f0 < (p : Int))) (fun u hu => decide_eq_true (units_f0 m p u hu).2.1)]
  rw [filter_none (p := fun u => decide (u.f0 < (p : Int))) (fun u hu => decide_eq_false (by have := mid p q u hu; omega))]
  rw [filter_none (p := fun u => decide (u.f0 < (p : Int))) (fun u hu => decide_eq_false (by have := mid (p + q) t u hu; omega))]
  rw [filter_none (l := units m p) (p := fun u => decide ((p : Int) + (q : Int) ≤ u.f0)) (fun u hu => decide_eq_false (by have := (units_f0 m p u hu).2.1; omega))]
  rw [filter_none (p := fun u => decide ((p : Int) + (q : Int) ≤ u.f0)) (fun u hu => decide_eq_false (by have := mid p q u hu; omega))]
  rw [filter_all (p := fun u => decide ((p : Int) + (q : Int) ≤ u.f0)) (fun u hu => decide_eq_true (by have := mid (p + q) t u hu; omega))]
  simp only [List.append_nil, List.nil_append, List.append_assoc]
/-- Units in order. -/
def rising : List EX → Prop
  | [] => True
  | u :: l => (∀ v ∈ l, u.f0 < v.f0) ∧ rising l
theorem rising_snoc {a : List EX} {u : EX} (h : rising a) (hu : ∀ v ∈ a, v.f0 < u.f0) : rising (a ++ [u]) := by
  induction a with
  | nil => exact ⟨(fun v hv => by cases hv), trivial⟩
  | cons x a ih =>
    refine ⟨fun v hv => ?_, ih h.2 (fun v hv => hu v (List.mem_cons_of_mem _ hv))⟩
    rcases List.mem_append.1 hv with hv | hv
    · exact h.1 v hv
    · simp only [List.mem_singleton] at hv; subst hv; exact hu x List.mem_cons_self
theorem rising_units (m : List Int) : ∀ k, rising (units m k)
  | 0 => trivial
  | k + 1 => by
    rw [units_succ]
    split
    · rw [List.append_nil]; exact rising_units m k
    · exact rising_snoc (rising_units m k) (fun v hv => (units_f0 m k v hv).2.1)
theorem un_mem {y u : EX} (hy : alone y) (hu : u ∈ un y) : y.f0 ≤ u.f0 ∧ u.f0 < y.f0 + y.f1 := by
  obtain ⟨y1, y2, y3, y4, y5⟩ := hy
  unfold un unA at hu
  obtain ⟨i, hi, rfl⟩ := List.mem_map.1 hu
  have := List.mem_range.1 hi
  simp only
  omega
end Go.Proofs.Ytacmfpkmcefcfaa.ExtP
namespace Go.Proofs.Ytacmfpkmcefcfaa.ExtP
open Go.RowKit Go.Proofs.YtacmfpkmcefcfaaW.PrintWords Go.Proofs.YtacmfpkmcefcfaaW.PrintLast Go.Proofs.YtacmfpkmcefcfaaW.PrintMore Go.Proofs.Ytacmfpkmcefcfaa.A Go.Proofs.Ytacmfpkmcefcfaa.Hand Go.Proofs.Ytacmfpkmcefcfaa.Maps
set_option linter.unusedVariables false
set_option linter.unusedSimpArgs false
theorem noneM_get (k : Nat) (hk : k < 64) : noneM.getD k 0 = -1 := by
  unfold noneM
  rw [List.getD_eq_getElem?_getD, List.getElem?_replicate, if_pos hk]; rfl
def startB (m : List Int) (k : Nat) : Bool := decide (0 ≤ m.getD k 0) && ! decide (0 < k ∧ goesOn (m.getD (k - 1) 0) (m.getD k 0))
def cs (m : List Int) : Nat → Nat
  | 0 => 0
  | k + 1 => cs m k + (if startB m k = true then 1 else 0)
end Go.Proofs.Ytacmfpkmcefcfaa.ExtP
end
section
namespace Go.Proofs.Ytacmfpkmcefcfaa.ExtP
open Go.RowKit Go.Proofs.YtacmfpkmcefcfaaW.PrintWords Go.Proofs.YtacmfpkmcefcfaaW.PrintLast Go.Proofs.YtacmfpkmcefcfaaW.PrintMore Go.Proofs.Ytacmfpkmcefcfaa.A Go.Proofs.Ytacmfpkmcefcfaa.Hand Go.Proofs.Ytacmfpkmcefcfaa.Maps
set_option linter.unusedVariables false
set_option linter.unusedSimpArgs false
/-- One extent may stand behind another one. -/
def nextP (a b : EX) : Prop := a.f0 + a.f1 ≤ b.f0 ∧ ¬ oneP a b
instance (a b : EX) : Decidable (nextP a b) := by unfold nextP; infer_instance
/-- The i-th extent is as it should be (B: so many blocks). -/
def goodAt (B : Int) (l : List EX) (i : Nat) : Prop := alone (l.getD i z96) ∧ (l.getD i z96).f0 + (l.getD i z96).f1 ≤ B ∧ (0 < i → nextP (l.getD (i - 1) z96) (l.getD i z96))
instance (B : Int) (l : List EX) (i : Nat) : Decidable (goodAt B l i) := by unfold goodAt; infer_instance
/-- A tidy map. -/
def tidyB (B : Int) (l : List EX) : Bool := (List.range l.length).all fun i => decide (goodAt B l i)
theorem tidyB_iff (B : Int) (l : List EX) : tidyB B l = true ↔ ∀ i, i < l.length → goodAt B l i := by
  unfold tidyB
  rw [List.all_eq_true]
  constructor
  · intro h i hi
    exact of_decide_eq_true (h i (List.mem_range.2 hi))
  · intro h i hi
    exact decide_eq_true (h i (List.mem_range.1 hi))
/-- From the i-th on. -/
def tidyFrom (B : Int) (l : List EX) : Nat → Nat → Bool
  | 0, _ => true
  | d + 1, i => if goodAt B l i then tidyFrom B l d (i + 1) else false
theorem tidyFrom_iff (B : Int) (l : List EX) : ∀ d i, tidyFrom B l d i = true ↔ ∀ j, i ≤ j → j < i + d → goodAt B l j
  | 0, i => by simp [tidyFrom]; intro j h1 h2; omega
  | d + 1, i => by
    unfold tidyFrom
    by_cases h : goodAt B l i
    · rw [if_pos h, tidyFrom_iff B l d (i + 1)]
      constructor
      · intro g j h1 h2
        by_cases e : j = i
        · rw [e]; exact h
        · exact g j (by omega) (by omega)
      · intro g j h1 h2
        exact g j (by omega) (by omega)
    · rw [if_neg h]
      simp only [Bool.false_eq_true, false_iff]
      intro g
      exact h (g i (Nat.le_refl _) (by omega))
theorem tidyFrom_eq (B : Int) (l : List EX) : tidyFrom B l l.length 0 = tidyB B l := by
  rw [Bool.eq_iff_iff, tidyFrom_iff, tidyB_iff]
  constructor
  · intro h i hi; exact h i (Nat.zero_le _) (by omega)
  · intro h i _ hi; exact h i (by omega)
theorem rdT_getD (l : List EX) (i : Nat) : rd_T96 l (i : Int) = l.getD i z96 := by unfold rd_T96; rw [Int.toNat_natCast]
theorem valid_l0 (B : Int) (hB : -4611686018427387904 ≤ B) (l : List EX) (hn : l.length ≤ 1000000) : ∀ (d k i : Nat), i + d = l.length → 2 * d < k → (0 < i → alone (l.getD (i - 1) z96)) →
    extent_Valid.l0 k l B l (l.length : Int) (i : Int) = some (tidyFrom B l d i)
  | 0, k, i, hd, hk, _ => by
    obtain ⟨k, rfl⟩ : ∃ m, k = m + 1 := ⟨k - 1, by omega⟩
    simp only [extent_Valid.l0]
    rw [if_neg (by omega)]
    rfl
  | d + 1, k, i, hd, hk, hp => by
    obtain ⟨k, rfl⟩ : ∃ m, k = m + 1 + 1 := ⟨k - 2, by omega⟩
    simp only [extent_Valid.l0, extent_Valid.j1]
    rw [if_pos (by omega), if_pos (by omega), if_pos (by omega), rdT_getD]
    rw [single_eq, Option.bind_some]
    unfold tidyFrom
    generalize hx : l.getD i z96 = x at *
    by_cases ha : alone x
    · rw [if_pos (decide_eq_true ha)]
      have hw : wh x.f0 x.f1 := ⟨ha.1, ha.2.1, ha.2.2.1⟩
      have ho : extent_own.f x.f0 x.f1 x.f2 = some (x.f0, x.f1) := rfl
      rw [ho, Option.bind_some, valid_eq _ _ _ hB, Option.bind_some]
      by_cases hb : x.f0 + x.f1 ≤ B
      · rw [decide_eq_true (show wh x.f0 x.f1 ∧ x.f0 + x.f1 ≤ B from ⟨hw, hb⟩), Bool.not_true, if_neg Bool.false_ne_true]
        have hnx : wrap64 ((i : Int) + 1) = ((i + 1 : Nat) : Int) := by unfold wrap64; omega
        by_cases h0 : 0 < i
        · rw [if_pos (by omega : (i : Int) > 0)]
          have hw1 : wrap64 ((i : Int) - 1) = ((i - 1 : Nat) : Int) := by unfold wrap64; omega
          rw [hw1, if_pos (by omega), if_pos (by omega), rdT_getD]
          have hpa := hp h0
          generalize hy : l.getD (i - 1) z96 = y at *
          have ho2 : extent_own.f y.f0 y.f1 y.f2 = some (y.f0, y.f1) := rfl
          rw [ho2, Option.bind_some, end_yes hpa.1 hpa.2.1 hpa.2.2.1, Option.bind_some, one_eq y x hpa]
          by_cases h1 : x.f0 < y.f0 + y.f1
          · rw [if_pos h1, if_neg (fun g : goodAt B l i => by
              have := (g.2.2 h0).1
              rw [hx, hy] at this
              omega)]
          · rw [if_neg h1, Option.bind_some]
            by_cases h2 : oneP y x
            · rw [if_pos (decide_eq_true h2), if_neg (fun g : goodAt B l i => by
                have := (g.2.2 h0).2
                rw [hx, hy] at this
                exact this h2)]
            · rw [if_neg (by rw [decide_eq_true_eq]; exact h2), if_pos (show goodAt B l i from ⟨by rw [hx]; exact ha, by rw [hx]; exact hb, fun _ => by rw [hx, hy]; exact ⟨by omega, h2⟩⟩), hnx]
              exact valid_l0 B hB l hn d k (i + 1) (by omega) (by omega) (fun _ => by rw [Nat.add_sub_cancel, hx]; exact ha)
        · rw [if_neg (by omega : ¬ (i : Int) > 0), if_pos (show goodAt B l i from ⟨by rw [hx]; exact ha, by rw [hx]; exact hb, fun h => absurd h h0⟩), hnx]
          exact valid_l0 B hB l hn d k (i + 1) (by omega) (by omega) (fun _ => by rw [Nat.add_sub_cancel, hx]; exact ha)
      · rw [decide_eq_false (fun g : wh x.f0 x.f1 ∧ x.f0 + x.f1 ≤ B => hb g.2), Bool.not_false, if_pos rfl, if_neg (fun g : goodAt B l i => by
          have := g.2.1
          rw [hx] at this
          exact hb this)]
    · rw [if_neg (by rw [decide_eq_true_eq]; exact ha), if_pos trivial, if_neg (fun g : goodAt B l i => by
        have := g.1
        rw [hx] at this
        exact ha this)]
theorem valid_tidy (B : Int) (hB : -4611686018427387904 ≤ B) (l : List EX) (hn : l.length ≤ 1000000) (k : Nat) (hk : 2 * l.length < k) : extent_Valid.f k l B = some (tidyB B l) := by
  unfold extent_Valid.f
  rw [← tidyFrom_eq]
  exact valid_l0 B hB l hn l.length k 0 (by omega) hk (fun h => by omega)
/-- Each stands behind the one ahead of it, not one with it. -/
def chain : List EX → Prop
  | [] => True
  | a :: l => (∀ b, l.head? = some b → nextP a b) ∧ chain l
theorem chain_append : ∀ (l : List EX) (a b : EX), chain (l ++ [a]) → nextP a b → chain (l ++ [a] ++ [b])
  | [], a, b, h, hn => ⟨fun c hc => by simp at hc; rw [← hc]; exact hn, fun c hc => by simp at hc, trivial⟩
  | x :: l, a, b, h, hn => by
    refine ⟨fun c hc => h.1 c ?_, chain_append l a b h.2 hn⟩
    cases l with
    | nil => simpa using hc
    | cons y l => simpa using hc
/-- Turned round. -/
def back : List EX → Prop
  | [] => True
  | a :: l => (∀ b, l.head? = some b → nextP b a) ∧ back l
theorem back_chain : ∀ r : List EX, back r → chain r.reverse
  | [], _ => trivial
  | [a], _ => ⟨fun b hb => by simp at hb, trivial⟩
  | a :: b :: r, h => by
    rw [List.reverse_cons, List.reverse_cons]
    have := back_chain (b :: r) h.2
    rw [List.reverse_cons] at this
    exact chain_append _ _ _ this (h.1 b rfl)
theorem getD_append_at (a : List EX) (x : EX) (l : List EX) : (a ++ x :: l).getD a.length z96 = x := by
  rw [List.getD_eq_getElem?_getD, List.getElem?_append_right (Nat.le_refl _), Nat.sub_self]
  rfl
theorem tidy_chain (B : Int) (L : List EX) (hall : ∀ i, i < L.length → goodAt B L i) : ∀ (l a : List EX), L = a ++ l → chain l
  | [], _, _ => trivial
  | x :: l, a, h => by
    refine ⟨fun b hb => ?_, tidy_chain B L hall l (a ++ [x]) (by rw [h, List.append_assoc]; rfl)⟩
    cases l with
    | nil => simp at hb
    | cons y l =>
      simp at hb
      subst hb
      have h1 : L = (a ++ [x]) ++ y :: l := by rw [h, List.append_assoc]; rfl
      have hg := hall (a.length + 1) (by rw [h]; simp)
      have e1 : L.getD (a.length + 1) z96 = y := by rw [h1, show a.length + 1 = (a ++ [x]).length by simp]; exact getD_append_at _ _ _
      have e2 : L.getD a.length z96 = x := by rw [h]; exact getD_append_at _ _ _
      have := hg.2.2 (by omega)
      rw [Nat.add_sub_cancel, e1, e2] at this
      exact this
theorem chain_tidy (B : Int) (L : List EX) (hal : ∀ x ∈ L, alone x ∧ x.f0 + x.f1 ≤ B) (hc : chain L) : ∀ i, i < L.length → goodAt B L i := by
  have key : ∀ (l a : List EX), L = a ++ l → chain l → ∀ i, a.length < i → i < L.length → nextP (L.getD (i - 1) z96) (L.getD i z96) := by
    intro l
    induction l with
    | nil => intro a h _ i h1 h2; rw [h, List.append_nil] at h2; omega
    | cons x l ih =>
      intro a h hc i h1 h2
      by_cases e : i = a.length + 1
      · subst e
        cases l with
        | nil => rw [h] at h2; simp at h2
        | cons y l =>
          have h1 : L = (a ++ [x]) ++ y :: l := by rw [h, List.append_assoc]; rfl
          have e1 : L.getD (a.length + 1) z96 = y := by rw [h1, show a.length + 1 = (a ++ [x]).length by simp]; exact getD_append_at _ _ _
          have e2 : L.getD a.length z96 = x := by rw [h]; exact getD_append_at _ _ _
          rw [Nat.add_sub_cancel, e1, e2]
          exact hc.1 y rfl
      · exact ih (a ++ [x]) (by rw [h, List.append_assoc]; rfl) hc.2 i (by rw [List.length_append, List.length_singleton]; omega) h2
  intro i hi
  have hm : L.getD i z96 ∈ L := by rw [List.getD_eq_getElem?_getD, List.getElem?_eq_getElem hi]; exact List.getElem_mem hi
  refine ⟨(hal _ hm).1, (hal _ hm).2, fun h0 => ?_⟩
  cases L with
  | nil => simp at hi
  | cons x l =>
    by_cases e : i = 0
    · omega
    · exact key (x :: l) [] rfl hc i (by simp; omega) hi
theorem tidy_iff (B : Int) (l : List EX) : tidyB B l = true ↔ (∀ x ∈ l, alone x ∧ x.f0 + x.f1 ≤ B) ∧ chain l := by
  rw [tidyB_iff]
  constructor
  · intro h
    refine ⟨fun x hx => ?_, tidy_chain B l h l [] rfl⟩
    obtain ⟨i, hi, rfl⟩ := List.mem_iff_getElem.1 hx
    have := h i hi
    unfold goodAt at this
    rw [List.getD_eq_getElem?_getD, List.getElem?_eq_getElem hi] at this
    exact ⟨this.1, this.2.1⟩
  · rintro ⟨h1, h2⟩
    exact chain_tidy B l h1 h2
theorem addR_cons (a : EX) (r : List EX) (x : EX) : addR (a :: r) x = if oneP a x then ⟨a.f0, a.f1 + x.f1, a.f2⟩ :: r else x :: a :: r := rfl
/-- What is built of rising units is a chain. -/
theorem addR_back (r : List EX) (x : EX) (hb : back r) (hr : ∀ a, r.head? = some a → a.f0 + a.f1 ≤ x.f0) : back (addR r x) := by
  cases r with
  | nil => exact ⟨fun b hb => by simp at hb, trivial⟩
  | cons a r =>
    rw [addR_cons]
    by_cases h : oneP a x
    · rw [if_pos h]
      exact ⟨fun b hb' => hb.1 b hb', hb.2⟩
    · rw [if_neg h]
      exact ⟨fun b hb' => by simp at hb'; rw [← hb']; exact ⟨hr a rfl, h⟩, hb⟩
theorem build_back : ∀ (us r : List EX), back r → (∀ u ∈ us, isU u) → rising us → (∀ a, r.head? = some a → ∀ u ∈ us, a.f0 + a.f1 ≤ u.f0) → back (us.foldl addR r)
  | [], r, h, _, _, _ => h
  | u :: us, r, h, hu, hs, hr => by
    refine build_back us (addR r u) (addR_back r u h (fun a ha => hr a ha u (by simp))) (fun v hv => hu v (by simp [hv])) hs.2 (fun a ha v hv => ?_)
    have h1 := (hu u (by simp)).1
    have h2 := hs.1 v hv
    cases r with
    | nil => simp [addR] at ha; rw [← ha]; omega
    | cons b r =>
      rw [addR_cons] at ha
      by_cases ho : oneP b u
      · rw [if_pos ho] at ha
        simp at ha
        rw [← ha]
        have := ho.1
        show b.f0 + (b.f1 + u.f1) ≤ v.f0
        omega
      · rw [if_neg ho] at ha
        simp at ha
        rw [← ha]
        omega
theorem exM_chain {m : List Int} (hm : okM m) : chain (exM m) := by
  rw [exM_build hm]
  exact back_chain _ (build_back _ _ trivial (um_isU hm) (rising_units m 64) (fun a ha => by simp at ha))
/-- A chain is what is built of its units. -/
theorem chain_fold : ∀ (l r : List EX), chain l → (∀ a b, l.head? = some a → r.head? = some b → nextP b a) → l.foldl addR r = l.reverse ++ r
  | [], r, _, _ => rfl
  | a :: l, r, h, hj => by
    have e : addR r a = a :: r := by
      cases r with
      | nil => rfl
      | cons b r => rw [addR_cons, if_neg (hj a b rfl rfl).2]
    rw [List.foldl_cons, e, chain_fold l (a :: r) h.2 (fun c d hc hd => by simp at hd; rw [← hd]; exact h.1 c hc), List.reverse_cons, List.append_assoc]
    rfl
theorem chain_end : ∀ (l : List EX) (a : EX), (∀ x ∈ a :: l, alone x) → chain (a :: l) → ∀ y ∈ l, a.f0 + a.f1 ≤ y.f0
  | [], _, _, _, _, h => by cases h
  | b :: l, a, hal, hc, y, hy => by
    have h1 := (hc.1 b rfl).1
    rcases List.mem_cons.1 hy with rfl | hy
    · exact h1
    · have h2 := chain_end l b (fun x hx => hal x (List.mem_cons_of_mem _ hx)) hc.2 y hy
      have := (hal b (by simp)).2.1
      omega
theorem um_chain : ∀ (l : List EX) (m : List Int), okM m → (∀ x ∈ l, alone x) → chain l → (∀ u ∈ um m, ∀ x ∈ l, u.f0 < x.f0) → um (l.foldl setM m) = um m ++ Ul l
  | [], m, _, _, _, _ => by simp [Ul]
  | x :: l, m, hm, hal, hc, hu => by
    have hx := hal x (by simp)
    have e : um (setM m x) = um m ++ un x := by
      rw [um_set hm x hx, filter_all (fun u hu' => decide_eq_true (hu u hu' x (by simp))), filter_none (fun u hu' => decide_eq_false (by have := hu u hu' x (by simp); have := hx.2.1; omega)), List.append_nil]
    rw [List.foldl_cons, um_chain l (setM m x) (hm.setM x) (fun y hy => hal y (by simp [hy])) hc.2 (fun u hu' y hy => ?_), e, List.append_assoc]
    · rw [show x :: l = [x] ++ l from rfl, Ul_append, Ul_one]
    · rw [e] at hu'
      rcases List.mem_append.1 hu' with h | h
      · exact hu u h y (by simp [hy])
      · have h1 := (un_mem hx h).2
        have h2 := chain_end l x hal hc y hy
        omega
theorem um_none : um noneM = [] := by
  have : ∀ k, k ≤ 64 → units noneM k = [] := by
    intro k
    induction k with
    | zero => intro _; rfl
    | succ k ih =>
      intro hk
      rw [units_succ, ih (by omega), noneM_get k (by omega)]
      rfl
  exact this 64 (Nat.le_refl _)
theorem exM_ofM {l : List EX} (hal : ∀ x ∈ l, alone x) (hc : chain l) : exM (ofM l) = l := by
  rw [exM_build (okM.of l)]
  unfold ofM build
  rw [um_chain l noneM okM.none hal hc (fun u hu => by rw [um_none] at hu; cases hu), um_none, List.nil_append, split_l l [] hal, chain_fold l [] hc (fun a b _ hb => by simp at hb), List.append_nil, List.reverse_reverse]
/-- The document's test is the code's. -/
theorem tidy_ref (B : Int) (l : List EX) : tidyB B l = true ↔ l.length ≤ 64 ∧ (∀ x ∈ l, alone x ∧ x.f0 + x.f1 ≤ B) ∧ exM (ofM l) = l := by
  rw [tidy_iff]
  constructor
  · rintro ⟨h1, h2⟩
    have e := exM_ofM (fun x hx => (h1 x hx).1) h2
    refine ⟨?_, h1, e⟩
    have := exM_length (ofM l)
    rwa [e] at this
  · rintro ⟨_, h1, h2⟩
    refine ⟨h1, ?_⟩
    rw [← h2]
    exact exM_chain (okM.of l)
end Go.Proofs.Ytacmfpkmcefcfaa.ExtP
end
section
namespace Go.Proofs.Ytacmfpkmcefcfaa.Hand
open Go.RowKit Go.Proofs.YtacmfpkmcefcfaaW.PrintWords Go.Proofs.YtacmfpkmcefcfaaW.PrintLast Go.Proofs.YtacmfpkmcefcfaaW.PrintMore Go.Proofs.Ytacmfpkmcefcfaa.A Go.Proofs.Ytacmfpkmcefcfaa.Maps Go.Proofs.Ytacmfpkmcefcfaa.ExtP
set_option linter.unusedVariables false
set_option linter.unusedSimpArgs false
attribute [local go_sem] max2_int min2_int max_two min_two max_three min_three max_four min_four
theorem tidy_long (B : Int) (l : List EX) (h : 64 < l.length) : tidyB B l = false := by
  cases hb : tidyB B l with
  | false => rfl
  | true => exact absurd ((tidy_ref B l).1 hb).1 (by omega)
theorem tidy_bad (B : Int) (l : List EX) (x : EX) (hx : x ∈ l) (h : ¬ (alone x ∧ x.f0 + x.f1 ≤ B)) : tidyB B l = false := by
  cases hb : tidyB B l with
  | false => rfl
  | true => exact absurd (((tidy_ref B l).1 hb).2.1 x hx) h
theorem tidy_other (B : Int) (l : List EX) (h : exM (ofM l) ≠ l) : tidyB B l = false := by
  cases hb : tidyB B l with
  | false => rfl
  | true => exact absurd ((tidy_ref B l).1 hb).2.2 h
theorem rd_mem (l : List EX) (i : Nat) (h : i < l.length) : rd_T96 l (i : Int) ∈ l := by rw [rdT_at l i h]; exact List.getElem_mem h
theorem ext_eq (x y : EX) : (x.f0 == y.f0 && (x.f1 == y.f1 && x.f2 == y.f2)) = true ↔ x = y := by
  obtain ⟨a, b, c⟩ := x
  obtain ⟨d, e, f⟩ := y
  simp
set_option maxRecDepth 100000 in
set_option maxHeartbeats 1600000 in
theorem rvalid_calls (A : Option Addr) (c : Nat) (l : List EX) (B : Int) (hB : -4611686018427387904 ≤ B ∧ B ≤ 4611686018427387904) (w : World) (hC : Kd.C k96 w A l.length l) (hc : l.length ≤ c) :
    Calls Try.prog 26 #[.slice A l.length c, .int .i64 B] w fun e w' => e = .returned (.bool (tidyB B l)) ∧ Below w.heap.size w w' := by
  have hln : (l.length : Int) ≤ 9223372036854775807 := ext_ok hC
  by_cases hlong : 64 < l.length
  · have hlong' : (64 : Int) < (l.length : Int) := by omega
    rw [tidy_long B l hlong]
    clear hlong
    go_enter Try.func26, Try.ntmps26
    go_wp2_with fail
    go_ret
    exact ⟨rfl, Below.refl _ _⟩
  have hlong' : ¬ (64 : Int) < (l.length : Int) := by omega
  have Hl := Aside0.mk (show l.length ≤ 64 by omega)
  have HC := Aside0.mk hC
  have Hc := Aside0.mk hc
  obtain ⟨R, hR⟩ : ∃ R, tidyB B l = R := ⟨_, rfl⟩
  rw [hR]
  have HR := Aside0.mk hR
  clear hC hc hR hlong
  go_enter Try.func26, Try.ntmps26
  go_wp2_with fail
  go_loopg [5] l.length (fun kq v wz => ∃ i : Nat, i + kq = l.length ∧ v = .int .i64 (i : Int) ∧ Aside0 (Below w.heap.size w wz) ∧ Aside0 (∀ j, j < i → alone (rd_T96 l (j : Int)) ∧ (rd_T96 l (j : Int)).f0 + (rd_T96 l (j : Int)).f1 ≤ B))
  case atStart => exact ⟨0, by omega, rfl, ⟨Below.refl _ _⟩, ⟨fun j hj => by omega⟩⟩
  case round =>
    obtain ⟨i, hi, rfl, HB, HG⟩ := hrel
    by_cases hlt : i < l.length
    · obtain ⟨kk, rfl⟩ : ∃ z, gk = z + 1 := ⟨gk - 1, by omega⟩
      have hlt' : (i : Int) < (l.length : Int) := by omega
      obtain ⟨ad, e1, x0, x1, x2⟩ := at_T96 (Kd.C_below HC.out HB.out) (i : Int) (by omega) (by omega)
      subst e1
      rw [Int.toNat_natCast] at x0 x1 x2
      have HM := Aside0.mk (rd_mem l i hlt)
      have HXi := Aside0.mk (show rd_T96 l (i : Int) = rd_T96 l (i : Int) from rfl)
      generalize hX : rd_T96 l (i : Int) = X at x0 x1 x2 HM
      have HX := Aside0.mk hX
      clear hX HXi
      by_cases ha : alone X
      · have hal : emulsionref1_Alone.f X.f0 X.f1 X.f2 = some true := by rw [ralone_eq, decide_eq_true ha]
        have hs1 : wrap64 (X.f0 + X.f1) = X.f0 + X.f1 := by unfold wrap64; have := ha.1; have := ha.2.1; have := ha.2.2.1; omega
        have Ha := Aside0.mk ha
        clear ha
        by_cases hb' : X.f0 + X.f1 ≤ B
        · have t1 : decide (B < X.f0 + X.f1) = false := decide_eq_false (by omega)
          have Hb := Aside0.mk hb'
          clear hb'
          go_wp2_with fail
          refine start_ (n := 21) (S := fun w' => Below w.heap.size w w' ∧ w'.cell? (ad.add (i * 3)) = some (.int .i64 X.f0) ∧ w'.cell? ⟨(ad.add (i * 3)).block, (ad.add (i * 3)).off + 1, none⟩ = some (.int .i64 X.f1) ∧ w'.cell? ⟨(ad.add (i * 3)).block, (ad.add (i * 3)).off + 2, none⟩ = some (.int .i64 X.f2)) (ds := []) #[false, false, false, false, false, false, false, false, false, false, false, false, false, false, false, false, false, false, false, false, false] (by kernel_rfl) rfl rfl ⟨below_drew1 HB.out, x0, x1, x2⟩ (fun hHeld => ?_)
          refine pure_ (i := 0) (N := some 17) (v := ?_) (a' := ?_) #[true, false, false, false, false, false, false, false, false, false, false, false, false, false, false, false, false, false, false, false, false] rfl rfl (by kernel_rfl) (fun _ _ _ h => h) (Or.inl ⟨by rfl, ?_⟩) ?_ ?_
          rotate_left
          · intro w'
            go_simp
            with_reducible rfl
          rotate_left
          · simp only [Act.put, List.setIfInBounds_toArray, List.set_cons_zero, List.set_cons_succ, i64_w, i32_w]
            rfl
          refine pure_ (i := 1) (N := some 18) (v := ?_) (a' := ?_) #[true, true, false, false, false, false, false, false, false, false, false, false, false, false, false, false, false, false, false, false, false] rfl rfl (by kernel_rfl) (fun _ _ _ h => h) (Or.inl ⟨by rfl, ?_⟩) ?_ ?_
          rotate_left
          · intro w'
            go_simp
            with_reducible rfl
          rotate_left
          · simp only [Act.put, List.setIfInBounds_toArray, List.set_cons_zero, List.set_cons_succ, i64_w, i32_w]
            rfl
          refine pure_ (i := 2) (N := some 19) (v := ?_) (a' := ?_) #[true, true, true, false, false, false, false, false, false, false, false, false, false, false, false, false, false, false, false, false, false] rfl rfl (by kernel_rfl) (fun _ _ _ h => h) (Or.inl ⟨by rfl, ?_⟩) ?_ ?_
          rotate_left
          · intro w'
            go_simp
            with_reducible rfl
          rotate_left
          · simp only [Act.put, List.setIfInBounds_toArray, List.set_cons_zero, List.set_cons_succ, i64_w, i32_w]
            rfl
          refine take_ (i := 3) (N := some 20) (v := ?_) (a' := ?_) #[true, true, true, true, false, false, false, false, false, false, false, false, false, false, false, false, false, false, false, false, false] rfl rfl (by kernel_rfl) (fun _ _ _ h => h) (Or.inl ⟨by rfl, ?_⟩) hHeld ?_ ?_
          rotate_left
          · rintro w' ⟨s0, s1, s2, s3⟩
            go_simp
            with_reducible rfl
          rotate_left
          · simp only [Act.put, List.setIfInBounds_toArray, List.set_cons_zero, List.set_cons_succ, i64_w, i32_w]
            rfl
          refine one_ (i := 4) (N := some 21) #[true, true, true, true, true, false, false, false, false, false, false, false, false, false, false, false, false, false, false, false, false] rfl rfl (by kernel_rfl) (by decide) (fun K hK => ?_)
          refine goes_ Try.func61 (by kernel_rfl) rfl #[.agg #[.int .i64 X.f0, .int .i64 X.f1, .int .i64 X.f2]] (by rfl) rfl rfl (by simp only [List.map_toArray, List.map_cons, List.map_nil]; rfl) ?_
          with_reducible refine (emulsionref1_Alone.calls X.f0 X.f1 X.f2 true _ hal).mono ?_
          rintro e w3 ⟨rfl, hb⟩
          refine ⟨_, rfl, ?_⟩
          refine hK.out _ _ ⟨below_step hHeld.1 hb, keepP hb hHeld.2.1, keepP hb hHeld.2.2.1, keepP hb hHeld.2.2.2⟩ (fun hHeld => ?_)
          clear hK K
          refine norm_ (a' := ?_) ?_ ?_
          rotate_left
          · show Act.put _ (some 21) _ = _
            simp only [Act.put, List.setIfInBounds_toArray, List.set_cons_zero, List.set_cons_succ, i64_w, i32_w]
            rfl
          refine pure_ (i := 5) (N := some 22) (v := ?_) (a' := ?_) #[true, true, true, true, true, true, false, false, false, false, false, false, false, false, false, false, false, false, false, false, false] rfl rfl (by kernel_rfl) (fun _ _ _ h => h) (Or.inl ⟨by rfl, ?_⟩) ?_ ?_
          rotate_left
          · intro w'
            go_simp
            with_reducible rfl
          rotate_left
          · simp only [Act.put, List.setIfInBounds_toArray, List.set_cons_zero, List.set_cons_succ, i64_w, i32_w]
            rfl
          refine pure_ (i := 6) (N := some 23) (v := ?_) (a' := ?_) #[true, true, true, true, true, true, true, false, false, false, false, false, false, false, false, false, false, false, false, false, false] rfl rfl (by kernel_rfl) (fun _ _ _ h => h) (Or.inl ⟨by rfl, ?_⟩) ?_ ?_
          rotate_left
          · intro w'
            go_simp
            with_reducible rfl
          rotate_left
          · simp only [Act.put, List.setIfInBounds_toArray, List.set_cons_zero, List.set_cons_succ, i64_w, i32_w]
            rfl
          refine pure_ (i := 7) (N := some 24) (v := ?_) (a' := ?_) #[true, true, true, true, true, true, true, true, false, false, false, false, false, false, false, false, false, false, false, false, false] rfl rfl (by kernel_rfl) (fun _ _ _ h => h) (Or.inl ⟨by rfl, ?_⟩) ?_ ?_
          rotate_left
          · intro w'
            go_simp
            with_reducible rfl
          rotate_left
          · simp only [Act.put, List.setIfInBounds_toArray, List.set_cons_zero, List.set_cons_succ, i64_w, i32_w]
            rfl
          refine pure_ (i := 8) (N := some 25) (v := ?_) (a' := ?_) #[true, true, true, true, true, true, true, true, true, false, false, false, false, false, false, false, false, false, false, false, false] rfl rfl (by kernel_rfl) (fun _ _ _ h => h) (Or.inl ⟨by rfl, ?_⟩) ?_ ?_
          rotate_left
          · intro w'
            go_simp
            with_reducible rfl
          rotate_left
          · simp only [Act.put, List.setIfInBounds_toArray, List.set_cons_zero, List.set_cons_succ, i64_w, i32_w]
            rfl
          refine pure_ (i := 9) (N := some 26) (v := ?_) (a' := ?_) #[true, true, true, true, true, true, true, true, true, true, false, false, false, false, false, false, false, false, false, false, false] rfl rfl (by kernel_rfl) (fun _ _ _ h => h) (Or.inl ⟨by rfl, ?_⟩) ?_ ?_
          rotate_left
          · intro w'
            go_simp
            with_reducible rfl
          rotate_left
          · simp only [Act.put, List.setIfInBounds_toArray, List.set_cons_zero, List.set_cons_succ, i64_w, i32_w]
            rfl
          refine pure_ (i := 10) (N := some 27) (v := ?_) (a' := ?_) #[true, true, true, true, true, true, true, true, true, true, true, false, false, false, false, false, false, false, false, false, false] rfl rfl (by kernel_rfl) (fun _ _ _ h => h) (Or.inl ⟨by rfl, ?_⟩) ?_ ?_
          rotate_left
          · intro w'
            go_simp
            with_reducible rfl
          rotate_left
          · simp only [Act.put, List.setIfInBounds_toArray, List.set_cons_zero, List.set_cons_succ, i64_w, i32_w]
            rfl
          refine pure_ (i := 12) (N := some 29) (v := ?_) (a' := ?_) #[true, true, true, true, true, true, true, true, true, true, true, false, true, false, false, false, false, false, false, false, false] rfl rfl (by kernel_rfl) (fun _ _ _ h => h) (Or.inl ⟨by rfl, ?_⟩) ?_ ?_
          rotate_left
          · intro w'
            go_simp
            with_reducible rfl
          rotate_left
          · simp only [Act.put, List.setIfInBounds_toArray, List.set_cons_zero, List.set_cons_succ, i64_w, i32_w]
            rfl
          refine pure_ (i := 13) (N := some 30) (v := ?_) (a' := ?_) #[true, true, true, true, true, true, true, true, true, true, true, false, true, true, false, false, false, false, false, false, false] rfl rfl (by kernel_rfl) (fun _ _ _ h => h) (Or.inl ⟨by rfl, ?_⟩) ?_ ?_
          rotate_left
          · intro w'
            go_simp
            with_reducible rfl
          rotate_left
          · simp only [Act.put, List.setIfInBounds_toArray, List.set_cons_zero, List.set_cons_succ, i64_w, i32_w]
            rfl
          refine pure_ (i := 14) (N := some 31) (v := ?_) (a' := ?_) #[true, true, true, true, true, true, true, true, true, true, true, false, true, true, true, false, false, false, false, false, false] rfl rfl (by kernel_rfl) (fun _ _ _ h => h) (Or.inl ⟨by rfl, ?_⟩) ?_ ?_
          rotate_left
          · intro w'
            go_simp
            with_reducible rfl
          rotate_left
          · simp only [Act.put, List.setIfInBounds_toArray, List.set_cons_zero, List.set_cons_succ, i64_w, i32_w]
            rfl
          refine pure_ (i := 15) (N := some 32) (v := ?_) (a' := ?_) #[true, true, true, true, true, true, true, true, true, true, true, false, true, true, true, true, false, false, false, false, false] rfl rfl (by kernel_rfl) (fun _ _ _ h => h) (Or.inl ⟨by rfl, ?_⟩) ?_ ?_
          rotate_left
          · intro w'
            go_simp
            with_reducible rfl
          rotate_left
          · simp only [Act.put, List.setIfInBounds_toArray, List.set_cons_zero, List.set_cons_succ, i64_w, i32_w]
            rfl
          refine pure_ (i := 18) (N := some 35) (v := ?_) (a' := ?_) #[true, true, true, true, true, true, true, true, true, true, true, false, true, true, true, true, false, false, true, false, false] rfl rfl (by kernel_rfl) (fun _ _ _ h => h) (Or.inl ⟨by rfl, ?_⟩) ?_ ?_
          rotate_left
          · intro w'
            go_simp
            with_reducible rfl
          rotate_left
          · simp only [Act.put, List.setIfInBounds_toArray, List.set_cons_zero, List.set_cons_succ, i64_w, i32_w]
            rfl
          refine take_ (i := 11) (N := some 28) (v := ?_) (a' := ?_) #[true, true, true, true, true, true, true, true, true, true, true, true, true, true, true, true, false, false, true, false, false] rfl rfl (by kernel_rfl) (fun _ _ _ h => h) (Or.inl ⟨by rfl, ?_⟩) hHeld ?_ ?_
          rotate_left
          · rintro w' ⟨s0, s1, s2, s3⟩
            go_simp
            with_reducible rfl
          rotate_left
          · simp only [Act.put, List.setIfInBounds_toArray, List.set_cons_zero, List.set_cons_succ, i64_w, i32_w]
            rfl
          refine take_ (i := 16) (N := some 33) (v := ?_) (a' := ?_) #[true, true, true, true, true, true, true, true, true, true, true, true, true, true, true, true, true, false, true, false, false] rfl rfl (by kernel_rfl) (fun _ _ _ h => h) (Or.inl ⟨by rfl, ?_⟩) hHeld ?_ ?_
          rotate_left
          · rintro w' ⟨s0, s1, s2, s3⟩
            go_simp
            with_reducible rfl
          rotate_left
          · simp only [Act.put, List.setIfInBounds_toArray, List.set_cons_zero, List.set_cons_succ, i64_w, i32_w]
            rfl
          refine pure_ (i := 17) (N := some 34) (v := ?_) (a' := ?_) #[true, true, true, true, true, true, true, true, true, true, true, true, true, true, true, true, true, true, true, false, false] rfl rfl (by kernel_rfl) (fun _ _ _ h => h) (Or.inl ⟨by rfl, ?_⟩) ?_ ?_
          rotate_left
          · intro w'
            go_simp
            with_reducible rfl
          rotate_left
          · simp only [Act.put, List.setIfInBounds_toArray, List.set_cons_zero, List.set_cons_succ, i64_w, i32_w]
            rfl
          refine pure_ (i := 19) (N := some 36) (v := ?_) (a' := ?_) #[true, true, true, true, true, true, true, true, true, true, true, true, true, true, true, true, true, true, true, true, false] rfl rfl (by kernel_rfl) (fun _ _ _ h => h) (Or.inl ⟨by rfl, ?_⟩) ?_ ?_
          rotate_left
          · intro w'
            go_simp
            with_reducible rfl
          rotate_left
          · simp only [Act.put, List.setIfInBounds_toArray, List.set_cons_zero, List.set_cons_succ, i64_w, i32_w]
            rfl
          refine pure_ (i := 20) (N := some 37) (v := ?_) (a' := ?_) #[true, true, true, true, true, true, true, true, true, true, true, true, true, true, true, true, true, true, true, true, true] rfl rfl (by kernel_rfl) (fun _ _ _ h => h) (Or.inl ⟨by rfl, ?_⟩) ?_ ?_
          rotate_left
          · intro w'
            go_simp
            with_reducible rfl
          rotate_left
          · simp only [Act.put, List.setIfInBounds_toArray, List.set_cons_zero, List.set_cons_succ, i64_w, i32_w]
            rfl
          refine done_ (by kernel_rfl) ?_
          have HB3 := Aside0.mk hHeld.1
          clear hHeld x0 x1 x2
          go_wp2_with fail
          have HG2 : Aside0 (∀ j, j < i + 1 → alone (rd_T96 l (j : Int)) ∧ (rd_T96 l (j : Int)).f0 + (rd_T96 l (j : Int)).f1 ≤ B) := ⟨fun j hj => by
            by_cases e : j = i
            · rw [e, HX.out]; exact ⟨Ha.out, Hb.out⟩
            · exact HG.out j (by omega)⟩
          clear HG HB
          go_roundg kk
          case measure => omega
          case rel => exact ⟨i + 1, by omega, by go_num, HB3, HG2⟩
        · have t1 : decide (B < X.f0 + X.f1) = true := decide_eq_true (by omega)
          have hf := tidy_bad B l X HM.out (fun h => hb' h.2)
          rw [HR.out] at hf
          subst hf
          clear hb'
          go_wp2_with fail
          refine start_ (n := 21) (S := fun w' => Below w.heap.size w w' ∧ w'.cell? (ad.add (i * 3)) = some (.int .i64 X.f0) ∧ w'.cell? ⟨(ad.add (i * 3)).block, (ad.add (i * 3)).off + 1, none⟩ = some (.int .i64 X.f1) ∧ w'.cell? ⟨(ad.add (i * 3)).block, (ad.add (i * 3)).off + 2, none⟩ = some (.int .i64 X.f2)) (ds := []) #[false, false, false, false, false, false, false, false, false, false, false, false, false, false, false, false, false, false, false, false, false] (by kernel_rfl) rfl rfl ⟨below_drew1 HB.out, x0, x1, x2⟩ (fun hHeld => ?_)
          refine pure_ (i := 0) (N := some 17) (v := ?_) (a' := ?_) #[true, false, false, false, false, false, false, false, false, false, false, false, false, false, false, false, false, false, false, false, false] rfl rfl (by kernel_rfl) (fun _ _ _ h => h) (Or.inl ⟨by rfl, ?_⟩) ?_ ?_
          rotate_left
          · intro w'
            go_simp
            with_reducible rfl
          rotate_left
          · simp only [Act.put, List.setIfInBounds_toArray, List.set_cons_zero, List.set_cons_succ, i64_w, i32_w]
            rfl
          refine pure_ (i := 1) (N := some 18) (v := ?_) (a' := ?_) #[true, true, false, false, false, false, false, false, false, false, false, false, false, false, false, false, false, false, false, false, false] rfl rfl (by kernel_rfl) (fun _ _ _ h => h) (Or.inl ⟨by rfl, ?_⟩) ?_ ?_
          rotate_left
          · intro w'
            go_simp
            with_reducible rfl
          rotate_left
          · simp only [Act.put, List.setIfInBounds_toArray, List.set_cons_zero, List.set_cons_succ, i64_w, i32_w]
            rfl
          refine pure_ (i := 2) (N := some 19) (v := ?_) (a' := ?_) #[true, true, true, false, false, false, false, false, false, false, false, false, false, false, false, false, false, false, false, false, false] rfl rfl (by kernel_rfl) (fun _ _ _ h => h) (Or.inl ⟨by rfl, ?_⟩) ?_ ?_
          rotate_left
          · intro w'
            go_simp
            with_reducible rfl
          rotate_left
          · simp only [Act.put, List.setIfInBounds_toArray, List.set_cons_zero, List.set_cons_succ, i64_w, i32_w]
            rfl
          refine take_ (i := 3) (N := some 20) (v := ?_) (a' := ?_) #[true, true, true, true, false, false, false, false, false, false, false, false, false, false, false, false, false, false, false, false, false] rfl rfl (by kernel_rfl) (fun _ _ _ h => h) (Or.inl ⟨by rfl, ?_⟩) hHeld ?_ ?_
          rotate_left
          · rintro w' ⟨s0, s1, s2, s3⟩
            go_simp
            with_reducible rfl
          rotate_left
          · simp only [Act.put, List.setIfInBounds_toArray, List.set_cons_zero, List.set_cons_succ, i64_w, i32_w]
            rfl
          refine one_ (i := 4) (N := some 21) #[true, true, true, true, true, false, false, false, false, false, false, false, false, false, false, false, false, false, false, false, false] rfl rfl (by kernel_rfl) (by decide) (fun K hK => ?_)
          refine goes_ Try.func61 (by kernel_rfl) rfl #[.agg #[.int .i64 X.f0, .int .i64 X.f1, .int .i64 X.f2]] (by rfl) rfl rfl (by simp only [List.map_toArray, List.map_cons, List.map_nil]; rfl) ?_
          with_reducible refine (emulsionref1_Alone.calls X.f0 X.f1 X.f2 true _ hal).mono ?_
          rintro e w3 ⟨rfl, hb⟩
          refine ⟨_, rfl, ?_⟩
          refine hK.out _ _ ⟨below_step hHeld.1 hb, keepP hb hHeld.2.1, keepP hb hHeld.2.2.1, keepP hb hHeld.2.2.2⟩ (fun hHeld => ?_)
          clear hK K
          refine norm_ (a' := ?_) ?_ ?_
          rotate_left
          · show Act.put _ (some 21) _ = _
            simp only [Act.put, List.setIfInBounds_toArray, List.set_cons_zero, List.set_cons_succ, i64_w, i32_w]
            rfl
          refine pure_ (i := 5) (N := some 22) (v := ?_) (a' := ?_) #[true, true, true, true, true, true, false, false, false, false, false, false, false, false, false, false, false, false, false, false, false] rfl rfl (by kernel_rfl) (fun _ _ _ h => h) (Or.inl ⟨by rfl, ?_⟩) ?_ ?_
          rotate_left
          · intro w'
            go_simp
            with_reducible rfl
          rotate_left
          · simp only [Act.put, List.setIfInBounds_toArray, List.set_cons_zero, List.set_cons_succ, i64_w, i32_w]
            rfl
          refine pure_ (i := 6) (N := some 23) (v := ?_) (a' := ?_) #[true, true, true, true, true, true, true, false, false, false, false, false, false, false, false, false, false, false, false, false, false] rfl rfl (by kernel_rfl) (fun _ _ _ h => h) (Or.inl ⟨by rfl, ?_⟩) ?_ ?_
          rotate_left
          · intro w'
            go_simp
            with_reducible rfl
          rotate_left
          · simp only [Act.put, List.setIfInBounds_toArray, List.set_cons_zero, List.set_cons_succ, i64_w, i32_w]
            rfl
          refine pure_ (i := 7) (N := some 24) (v := ?_) (a' := ?_) #[true, true, true, true, true, true, true, true, false, false, false, false, false, false, false, false, false, false, false, false, false] rfl rfl (by kernel_rfl) (fun _ _ _ h => h) (Or.inl ⟨by rfl, ?_⟩) ?_ ?_
          rotate_left
          · intro w'
            go_simp
            with_reducible rfl
          rotate_left
          · simp only [Act.put, List.setIfInBounds_toArray, List.set_cons_zero, List.set_cons_succ, i64_w, i32_w]
            rfl
          refine pure_ (i := 8) (N := some 25) (v := ?_) (a' := ?_) #[true, true, true, true, true, true, true, true, true, false, false, false, false, false, false, false, false, false, false, false, false] rfl rfl (by kernel_rfl) (fun _ _ _ h => h) (Or.inl ⟨by rfl, ?_⟩) ?_ ?_
          rotate_left
          · intro w'
            go_simp
            with_reducible rfl
          rotate_left
          · simp only [Act.put, List.setIfInBounds_toArray, List.set_cons_zero, List.set_cons_succ, i64_w, i32_w]
            rfl
          refine pure_ (i := 9) (N := some 26) (v := ?_) (a' := ?_) #[true, true, true, true, true, true, true, true, true, true, false, false, false, false, false, false, false, false, false, false, false] rfl rfl (by kernel_rfl) (fun _ _ _ h => h) (Or.inl ⟨by rfl, ?_⟩) ?_ ?_
          rotate_left
          · intro w'
            go_simp
            with_reducible rfl
          rotate_left
          · simp only [Act.put, List.setIfInBounds_toArray, List.set_cons_zero, List.set_cons_succ, i64_w, i32_w]
            rfl
          refine pure_ (i := 10) (N := some 27) (v := ?_) (a' := ?_) #[true, true, true, true, true, true, true, true, true, true, true, false, false, false, false, false, false, false, false, false, false] rfl rfl (by kernel_rfl) (fun _ _ _ h => h) (Or.inl ⟨by rfl, ?_⟩) ?_ ?_
          rotate_left
          · intro w'
            go_simp
            with_reducible rfl
          rotate_left
          · simp only [Act.put, List.setIfInBounds_toArray, List.set_cons_zero, List.set_cons_succ, i64_w, i32_w]
            rfl
          refine pure_ (i := 12) (N := some 29) (v := ?_) (a' := ?_) #[true, true, true, true, true, true, true, true, true, true, true, false, true, false, false, false, false, false, false, false, false] rfl rfl (by kernel_rfl) (fun _ _ _ h => h) (Or.inl ⟨by rfl, ?_⟩) ?_ ?_
          rotate_left
          · intro w'
            go_simp
            with_reducible rfl
          rotate_left
          · simp only [Act.put, List.setIfInBounds_toArray, List.set_cons_zero, List.set_cons_succ, i64_w, i32_w]
            rfl
          refine pure_ (i := 13) (N := some 30) (v := ?_) (a' := ?_) #[true, true, true, true, true, true, true, true, true, true, true, false, true, true, false, false, false, false, false, false, false] rfl rfl (by kernel_rfl) (fun _ _ _ h => h) (Or.inl ⟨by rfl, ?_⟩) ?_ ?_
          rotate_left
          · intro w'
            go_simp
            with_reducible rfl
          rotate_left
          · simp only [Act.put, List.setIfInBounds_toArray, List.set_cons_zero, List.set_cons_succ, i64_w, i32_w]
            rfl
          refine pure_ (i := 14) (N := some 31) (v := ?_) (a' := ?_) #[true, true, true, true, true, true, true, true, true, true, true, false, true, true, true, false, false, false, false, false, false] rfl rfl (by kernel_rfl) (fun _ _ _ h => h) (Or.inl ⟨by rfl, ?_⟩) ?_ ?_
          rotate_left
          · intro w'
            go_simp
            with_reducible rfl
          rotate_left
          · simp only [Act.put, List.setIfInBounds_toArray, List.set_cons_zero, List.set_cons_succ, i64_w, i32_w]
            rfl
          refine pure_ (i := 15) (N := some 32) (v := ?_) (a' := ?_) #[true, true, true, true, true, true, true, true, true, true, true, false, true, true, true, true, false, false, false, false, false] rfl rfl (by kernel_rfl) (fun _ _ _ h => h) (Or.inl ⟨by rfl, ?_⟩) ?_ ?_
          rotate_left
          · intro w'
            go_simp
            with_reducible rfl
          rotate_left
          · simp only [Act.put, List.setIfInBounds_toArray, List.set_cons_zero, List.set_cons_succ, i64_w, i32_w]
            rfl
          refine pure_ (i := 18) (N := some 35) (v := ?_) (a' := ?_) #[true, true, true, true, true, true, true, true, true, true, true, false, true, true, true, true, false, false, true, false, false] rfl rfl (by kernel_rfl) (fun _ _ _ h => h) (Or.inl ⟨by rfl, ?_⟩) ?_ ?_
          rotate_left
          · intro w'
            go_simp
            with_reducible rfl
          rotate_left
          · simp only [Act.put, List.setIfInBounds_toArray, List.set_cons_zero, List.set_cons_succ, i64_w, i32_w]
            rfl
          refine take_ (i := 11) (N := some 28) (v := ?_) (a' := ?_) #[true, true, true, true, true, true, true, true, true, true, true, true, true, true, true, true, false, false, true, false, false] rfl rfl (by kernel_rfl) (fun _ _ _ h => h) (Or.inl ⟨by rfl, ?_⟩) hHeld ?_ ?_
          rotate_left
          · rintro w' ⟨s0, s1, s2, s3⟩
            go_simp
            with_reducible rfl
          rotate_left
          · simp only [Act.put, List.setIfInBounds_toArray, List.set_cons_zero, List.set_cons_succ, i64_w, i32_w]
            rfl
          refine take_ (i := 16) (N := some 33) (v := ?_) (a' := ?_) #[true, true, true, true, true, true, true, true, true, true, true, true, true, true, true, true, true, false, true, false, false] rfl rfl (by kernel_rfl) (fun _ _ _ h => h) (Or.inl ⟨by rfl, ?_⟩) hHeld ?_ ?_
          rotate_left
          · rintro w' ⟨s0, s1, s2, s3⟩
            go_simp
            with_reducible rfl
          rotate_left
          · simp only [Act.put, List.setIfInBounds_toArray, List.set_cons_zero, List.set_cons_succ, i64_w, i32_w]
            rfl
          refine pure_ (i := 17) (N := some 34) (v := ?_) (a' := ?_) #[true, true, true, true, true, true, true, true, true, true, true, true, true, true, true, true, true, true, true, false, false] rfl rfl (by kernel_rfl) (fun _ _ _ h => h) (Or.inl ⟨by rfl, ?_⟩) ?_ ?_
          rotate_left
          · intro w'
            go_simp
            with_reducible rfl
          rotate_left
          · simp only [Act.put, List.setIfInBounds_toArray, List.set_cons_zero, List.set_cons_succ, i64_w, i32_w]
            rfl
          refine pure_ (i := 19) (N := some 36) (v := ?_) (a' := ?_) #[true, true, true, true, true, true, true, true, true, true, true, true, true, true, true, true, true, true, true, true, false] rfl rfl (by kernel_rfl) (fun _ _ _ h => h) (Or.inl ⟨by rfl, ?_⟩) ?_ ?_
          rotate_left
          · intro w'
            go_simp
            with_reducible rfl
          rotate_left
          · simp only [Act.put, List.setIfInBounds_toArray, List.set_cons_zero, List.set_cons_succ, i64_w, i32_w]
            rfl
          refine pure_ (i := 20) (N := some 37) (v := ?_) (a' := ?_) #[true, true, true, true, true, true, true, true, true, true, true, true, true, true, true, true, true, true, true, true, true] rfl rfl (by kernel_rfl) (fun _ _ _ h => h) (Or.inl ⟨by rfl, ?_⟩) ?_ ?_
          rotate_left
          · intro w'
            go_simp
            with_reducible rfl
          rotate_left
          · simp only [Act.put, List.setIfInBounds_toArray, List.set_cons_zero, List.set_cons_succ, i64_w, i32_w]
            rfl
          refine done_ (by kernel_rfl) ?_
          go_wp2_with fail
          go_ret
          exact ⟨rfl, hHeld.1⟩
      · have hal : emulsionref1_Alone.f X.f0 X.f1 X.f2 = some false := by rw [ralone_eq, decide_eq_false ha]
        have hf := tidy_bad B l X HM.out (fun h => ha h.1)
        rw [HR.out] at hf
        subst hf
        clear ha
        go_wp2_with fail
        refine start_ (n := 21) (S := fun w' => Below w.heap.size w w' ∧ w'.cell? (ad.add (i * 3)) = some (.int .i64 X.f0) ∧ w'.cell? ⟨(ad.add (i * 3)).block, (ad.add (i * 3)).off + 1, none⟩ = some (.int .i64 X.f1) ∧ w'.cell? ⟨(ad.add (i * 3)).block, (ad.add (i * 3)).off + 2, none⟩ = some (.int .i64 X.f2)) (ds := []) #[false, false, false, false, false, false, false, false, false, false, false, false, false, false, false, false, false, false, false, false, false] (by kernel_rfl) rfl rfl ⟨below_drew1 HB.out, x0, x1, x2⟩ (fun hHeld => ?_)
        refine pure_ (i := 0) (N := some 17) (v := ?_) (a' := ?_) #[true, false, false, false, false, false, false, false, false, false, false, false, false, false, false, false, false, false, false, false, false] rfl rfl (by kernel_rfl) (fun _ _ _ h => h) (Or.inl ⟨by rfl, ?_⟩) ?_ ?_
        rotate_left
        · intro w'
          go_simp
          with_reducible rfl
        rotate_left
        · simp only [Act.put, List.setIfInBounds_toArray, List.set_cons_zero, List.set_cons_succ, i64_w, i32_w]
          rfl
        refine pure_ (i := 1) (N := some 18) (v := ?_) (a' := ?_) #[true, true, false, false, false, false, false, false, false, false, false, false, false, false, false, false, false, false, false, false, false] rfl rfl (by kernel_rfl) (fun _ _ _ h => h) (Or.inl ⟨by rfl, ?_⟩) ?_ ?_
        rotate_left
        · intro w'
          go_simp
          with_reducible rfl
        rotate_left
        · simp only [Act.put, List.setIfInBounds_toArray, List.set_cons_zero, List.set_cons_succ, i64_w, i32_w]
          rfl
        refine pure_ (i := 2) (N := some 19) (v := ?_) (a' := ?_) #[true, true, true, false, false, false, false, false, false, false, false, false, false, false, false, false, false, false, false, false, false] rfl rfl (by kernel_rfl) (fun _ _ _ h => h) (Or.inl ⟨by rfl, ?_⟩) ?_ ?_
        rotate_left
        · intro w'
          go_simp
          with_reducible rfl
        rotate_left
        · simp only [Act.put, List.setIfInBounds_toArray, List.set_cons_zero, List.set_cons_succ, i64_w, i32_w]
          rfl
        refine take_ (i := 3) (N := some 20) (v := ?_) (a' := ?_) #[true, true, true, true, false, false, false, false, false, false, false, false, false, false, false, false, false, false, false, false, false] rfl rfl (by kernel_rfl) (fun _ _ _ h => h) (Or.inl ⟨by rfl, ?_⟩) hHeld ?_ ?_
        rotate_left
        · rintro w' ⟨s0, s1, s2, s3⟩
          go_simp
          with_reducible rfl
        rotate_left
        · simp only [Act.put, List.setIfInBounds_toArray, List.set_cons_zero, List.set_cons_succ, i64_w, i32_w]
          rfl
        refine one_ (i := 4) (N := some 21) #[true, true, true, true, true, false, false, false, false, false, false, false, false, false, false, false, false, false, false, false, false] rfl rfl (by kernel_rfl) (by decide) (fun K hK => ?_)
        refine goes_ Try.func61 (by kernel_rfl) rfl #[.agg #[.int .i64 X.f0, .int .i64 X.f1, .int .i64 X.f2]] (by rfl) rfl rfl (by simp only [List.map_toArray, List.map_cons, List.map_nil]; rfl) ?_
        with_reducible refine (emulsionref1_Alone.calls X.f0 X.f1 X.f2 false _ hal).mono ?_
        rintro e w3 ⟨rfl, hb⟩
        refine ⟨_, rfl, ?_⟩
        refine hK.out _ _ ⟨below_step hHeld.1 hb, keepP hb hHeld.2.1, keepP hb hHeld.2.2.1, keepP hb hHeld.2.2.2⟩ (fun hHeld => ?_)
        clear hK K
        refine norm_ (a' := ?_) ?_ ?_
        rotate_left
        · show Act.put _ (some 21) _ = _
          simp only [Act.put, List.setIfInBounds_toArray, List.set_cons_zero, List.set_cons_succ, i64_w, i32_w]
          rfl
        refine pure_ (i := 5) (N := some 22) (v := ?_) (a' := ?_) #[true, true, true, true, true, true, false, false, false, false, false, false, false, false, false, false, false, false, false, false, false] rfl rfl (by kernel_rfl) (fun _ _ _ h => h) (Or.inl ⟨by rfl, ?_⟩) ?_ ?_
        rotate_left
        · intro w'
          go_simp
          with_reducible rfl
        rotate_left
        · simp only [Act.put, List.setIfInBounds_toArray, List.set_cons_zero, List.set_cons_succ, i64_w, i32_w]
          rfl
        refine pure_ (i := 6) (N := some 23) (v := ?_) (a' := ?_) #[true, true, true, true, true, true, true, false, false, false, false, false, false, false, false, false, false, false, false, false, false] rfl rfl (by kernel_rfl) (fun _ _ _ h => h) (Or.inl ⟨by rfl, ?_⟩) ?_ ?_
        rotate_left
        · intro w'
          go_simp
          with_reducible rfl
        rotate_left
        · simp only [Act.put, List.setIfInBounds_toArray, List.set_cons_zero, List.set_cons_succ, i64_w, i32_w]
          rfl
        refine pure_ (i := 7) (N := some 24) (v := undef) (a' := ?_) #[true, true, true, true, true, true, true, true, false, false, false, false, false, false, false, false, false, false, false, false, false] rfl rfl (by kernel_rfl) (fun _ _ _ h => h) (Or.inr ⟨by rfl, rfl⟩) ?_ ?_
        rotate_left
        · simp only [Act.put, List.setIfInBounds_toArray, List.set_cons_zero, List.set_cons_succ, i64_w, i32_w]
          rfl
        refine pure_ (i := 8) (N := some 25) (v := undef) (a' := ?_) #[true, true, true, true, true, true, true, true, true, false, false, false, false, false, false, false, false, false, false, false, false] rfl rfl (by kernel_rfl) (fun _ _ _ h => h) (Or.inr ⟨by rfl, rfl⟩) ?_ ?_
        rotate_left
        · simp only [Act.put, List.setIfInBounds_toArray, List.set_cons_zero, List.set_cons_succ, i64_w, i32_w]
          rfl
        refine pure_ (i := 9) (N := some 26) (v := undef) (a' := ?_) #[true, true, true, true, true, true, true, true, true, true, false, false, false, false, false, false, false, false, false, false, false] rfl rfl (by kernel_rfl) (fun _ _ _ h => h) (Or.inr ⟨by rfl, rfl⟩) ?_ ?_
        rotate_left
        · simp only [Act.put, List.setIfInBounds_toArray, List.set_cons_zero, List.set_cons_succ, i64_w, i32_w]
          rfl
        refine pure_ (i := 10) (N := some 27) (v := undef) (a' := ?_) #[true, true, true, true, true, true, true, true, true, true, true, false, false, false, false, false, false, false, false, false, false] rfl rfl (by kernel_rfl) (fun _ _ _ h => h) (Or.inr ⟨by rfl, rfl⟩) ?_ ?_
        rotate_left
        · simp only [Act.put, List.setIfInBounds_toArray, List.set_cons_zero, List.set_cons_succ, i64_w, i32_w]
          rfl
        refine pure_ (i := 11) (N := some 28) (v := undef) (a' := ?_) #[true, true, true, true, true, true, true, true, true, true, true, true, false, false, false, false, false, false, false, false, false] rfl rfl (by kernel_rfl) (fun _ _ _ h => h) (Or.inr ⟨by rfl, rfl⟩) ?_ ?_
        rotate_left
        · simp only [Act.put, List.setIfInBounds_toArray, List.set_cons_zero, List.set_cons_succ, i64_w, i32_w]
          rfl
        refine pure_ (i := 12) (N := some 29) (v := undef) (a' := ?_) #[true, true, true, true, true, true, true, true, true, true, true, true, true, false, false, false, false, false, false, false, false] rfl rfl (by kernel_rfl) (fun _ _ _ h => h) (Or.inr ⟨by rfl, rfl⟩) ?_ ?_
        rotate_left
        · simp only [Act.put, List.setIfInBounds_toArray, List.set_cons_zero, List.set_cons_succ, i64_w, i32_w]
          rfl
        refine pure_ (i := 13) (N := some 30) (v := undef) (a' := ?_) #[true, true, true, true, true, true, true, true, true, true, true, true, true, true, false, false, false, false, false, false, false] rfl rfl (by kernel_rfl) (fun _ _ _ h => h) (Or.inr ⟨by rfl, rfl⟩) ?_ ?_
        rotate_left
        · simp only [Act.put, List.setIfInBounds_toArray, List.set_cons_zero, List.set_cons_succ, i64_w, i32_w]
          rfl
        refine pure_ (i := 14) (N := some 31) (v := undef) (a' := ?_) #[true, true, true, true, true, true, true, true, true, true, true, true, true, true, true, false, false, false, false, false, false] rfl rfl (by kernel_rfl) (fun _ _ _ h => h) (Or.inr ⟨by rfl, rfl⟩) ?_ ?_
        rotate_left
        · simp only [Act.put, List.setIfInBounds_toArray, List.set_cons_zero, List.set_cons_succ, i64_w, i32_w]
          rfl
        refine pure_ (i := 15) (N := some 32) (v := undef) (a' := ?_) #[true, true, true, true, true, true, true, true, true, true, true, true, true, true, true, true, false, false, false, false, false] rfl rfl (by kernel_rfl) (fun _ _ _ h => h) (Or.inr ⟨by rfl, rfl⟩) ?_ ?_
        rotate_left
        · simp only [Act.put, List.setIfInBounds_toArray, List.set_cons_zero, List.set_cons_succ, i64_w, i32_w]
          rfl
        refine pure_ (i := 16) (N := some 33) (v := undef) (a' := ?_) #[true, true, true, true, true, true, true, true, true, true, true, true, true, true, true, true, true, false, false, false, false] rfl rfl (by kernel_rfl) (fun _ _ _ h => h) (Or.inr ⟨by rfl, rfl⟩) ?_ ?_
        rotate_left
        · simp only [Act.put, List.setIfInBounds_toArray, List.set_cons_zero, List.set_cons_succ, i64_w, i32_w]
          rfl
        refine pure_ (i := 17) (N := some 34) (v := undef) (a' := ?_) #[true, true, true, true, true, true, true, true, true, true, true, true, true, true, true, true, true, true, false, false, false] rfl rfl (by kernel_rfl) (fun _ _ _ h => h) (Or.inr ⟨by rfl, rfl⟩) ?_ ?_
        rotate_left
        · simp only [Act.put, List.setIfInBounds_toArray, List.set_cons_zero, List.set_cons_succ, i64_w, i32_w]
          rfl
        refine pure_ (i := 18) (N := some 35) (v := undef) (a' := ?_) #[true, true, true, true, true, true, true, true, true, true, true, true, true, true, true, true, true, true, true, false, false] rfl rfl (by kernel_rfl) (fun _ _ _ h => h) (Or.inr ⟨by rfl, rfl⟩) ?_ ?_
        rotate_left
        · simp only [Act.put, List.setIfInBounds_toArray, List.set_cons_zero, List.set_cons_succ, i64_w, i32_w]
          rfl
        refine pure_ (i := 19) (N := some 36) (v := undef) (a' := ?_) #[true, true, true, true, true, true, true, true, true, true, true, true, true, true, true, true, true, true, true, true, false] rfl rfl (by kernel_rfl) (fun _ _ _ h => h) (Or.inr ⟨by rfl, rfl⟩) ?_ ?_
        rotate_left
        · simp only [Act.put, List.setIfInBounds_toArray, List.set_cons_zero, List.set_cons_succ, i64_w, i32_w]
          rfl
        refine pure_ (i := 20) (N := some 37) (v := ?_) (a' := ?_) #[true, true, true, true, true, true, true, true, true, true, true, true, true, true, true, true, true, true, true, true, true] rfl rfl (by kernel_rfl) (fun _ _ _ h => h) (Or.inl ⟨by rfl, ?_⟩) ?_ ?_
        rotate_left
        · intro w'
          go_simp
          with_reducible rfl
        rotate_left
        · simp only [Act.put, List.setIfInBounds_toArray, List.set_cons_zero, List.set_cons_succ, i64_w, i32_w]
          rfl
        refine done_ (by kernel_rfl) ?_
        go_wp2_with fail
        go_ret
        exact ⟨rfl, hHeld.1⟩
    · obtain rfl : i = l.length := by omega
      have hlt' : ¬ (l.length : Int) < (l.length : Int) := by omega
      have HAL : Aside0 (∀ x ∈ l, alone x ∧ x.f0 + x.f1 ≤ B) := ⟨fun x hx => by
        obtain ⟨j, hj, rfl⟩ := List.mem_iff_getElem.1 hx
        have := HG.out j hj
        rw [rdT_at l j hj] at this
        exact this⟩
      clear HG
      go_wp2_with fail
      refine (of_calls A c l _ (Kd.C_below HC.out HB.out)).mono ?_
      rintro e w4 ⟨rfl, hB4⟩
      replace HB := Aside0.mk (below_step HB.out hB4)
      have hOk := Aside0.mk (okM.of l)
      have hE64 := exM_length (ofM l)
      have HT := Aside0.mk (fun h : exM (ofM l) ≠ l => tidy_other B l h)
      have HY : Aside0 (exM (ofM l) = l → tidyB B l = true) := ⟨fun h => (tidy_ref B l).2 ⟨Hl.out, HAL.out, h⟩⟩
      clear hB4 HAL
      generalize ofM l = m at *
      go_wp2_with fail
      refine (extents_calls m hOk.out _).mono ?_
      rintro e w5 ⟨v, rfl, hr, hB5⟩
      replace HB := Aside0.mk (below_step HB.out hB5)
      obtain ⟨A2, c2, rfl, hc2, hC2⟩ := Kd.R_reads hr
      have HC2 := Aside0.mk hC2
      have hln2 : ((exM m).length : Int) ≤ 64 := by omega
      clear hr hc2 hC2 hB5 hOk hE64
      generalize exM m = T at *
      by_cases hlen : T.length = l.length
      · have hlen' : (T.length : Int) = (l.length : Int) := by omega
        have Hlen := Aside0.mk hlen
        rw [hlen] at HC2 hln2 ⊢
        clear hlen hlen'
        go_wp2_with fail
        go_loopg [7] l.length (fun kq v wz => ∃ i : Nat, i + kq = l.length ∧ v = .int .i64 (i : Int) ∧ Aside0 (Below w.heap.size w wz) ∧ Aside0 (Below w5.heap.size w5 wz) ∧ Aside0 (∀ j, j < i → rd_T96 T (j : Int) = rd_T96 l (j : Int)))
        case atStart => exact ⟨0, by omega, rfl, HB, ⟨Below.refl _ _⟩, ⟨fun j hj => by omega⟩⟩
        case round =>
          clear HB
          obtain ⟨i, hi, rfl, HB, HB5, HG⟩ := hrel
          by_cases hlt : i < l.length
          · obtain ⟨kk, rfl⟩ : ∃ z, gk = z + 1 := ⟨gk - 1, by omega⟩
            have hlt' : (i : Int) < (l.length : Int) := by omega
            obtain ⟨ad, e1, x0, x1, x2⟩ := at_T96 (Kd.C_below HC.out HB.out) (i : Int) (by omega) (by omega)
            obtain ⟨bd, e2, y0, y1, y2⟩ := at_T96 (Kd.C_below HC2.out HB5.out) (i : Int) (by omega) (by omega)
            subst e1
            subst e2
            rw [Int.toNat_natCast] at x0 x1 x2 y0 y1 y2
            generalize hX : rd_T96 l (i : Int) = X at x0 x1 x2
            generalize hY : rd_T96 T (i : Int) = Y at y0 y1 y2
            have HX := Aside0.mk hX
            have HYi := Aside0.mk hY
            clear hX hY
            obtain ⟨q, hq⟩ : ∃ q, q = (Y.f0 == X.f0 && (Y.f1 == X.f1 && Y.f2 == X.f2)) := ⟨_, rfl⟩
            have hE : ∀ W : World, (Op.equalIn 10000 96 (.agg #[.int .i64 Y.f0, .int .i64 Y.f1, .int .i64 Y.f2]) (.agg #[.int .i64 X.f0, .int .i64 X.f1, .int .i64 X.f2])).run Try.prog W = .ok q W := fun W => by
              rw [hq]
              exact eqA96 9998 W _ _ _ _ _ _
            have Hq := Aside0.mk hq
            clear hq
            go_wp2_with fail
            refine start_ (n := 9) (S := fun w' => Below w.heap.size w w' ∧ Below w5.heap.size w5 w' ∧ w'.cell? (ad.add (i * 3)) = some (.int .i64 X.f0) ∧ w'.cell? ⟨(ad.add (i * 3)).block, (ad.add (i * 3)).off + 1, none⟩ = some (.int .i64 X.f1) ∧ w'.cell? ⟨(ad.add (i * 3)).block, (ad.add (i * 3)).off + 2, none⟩ = some (.int .i64 X.f2) ∧ w'.cell? (bd.add (i * 3)) = some (.int .i64 Y.f0) ∧ w'.cell? ⟨(bd.add (i * 3)).block, (bd.add (i * 3)).off + 1, none⟩ = some (.int .i64 Y.f1) ∧ w'.cell? ⟨(bd.add (i * 3)).block, (bd.add (i * 3)).off + 2, none⟩ = some (.int .i64 Y.f2)) (ds := []) #[false, false, false, false, false, false, false, false, false] (by kernel_rfl) rfl rfl ⟨below_drew1 HB.out, below_drew1 HB5.out, x0, x1, x2, y0, y1, y2⟩ (fun hHeld => ?_)
            refine pure_ (i := 0) (N := some 52) (v := ?_) (a' := ?_) #[true, false, false, false, false, false, false, false, false] rfl rfl (by kernel_rfl) (fun _ _ _ h => h) (Or.inl ⟨by rfl, ?_⟩) ?_ ?_
            rotate_left
            · intro w'
              go_simp
              with_reducible rfl
            rotate_left
            · simp only [Act.put, List.setIfInBounds_toArray, List.set_cons_zero, List.set_cons_succ, i64_w, i32_w]
              rfl
            refine pure_ (i := 1) (N := some 53) (v := ?_) (a' := ?_) #[true, true, false, false, false, false, false, false, false] rfl rfl (by kernel_rfl) (fun _ _ _ h => h) (Or.inl ⟨by rfl, ?_⟩) ?_ ?_
            rotate_left
            · intro w'
              go_simp
              with_reducible rfl
            rotate_left
            · simp only [Act.put, List.setIfInBounds_toArray, List.set_cons_zero, List.set_cons_succ, i64_w, i32_w]
              rfl
            refine pure_ (i := 2) (N := some 54) (v := ?_) (a' := ?_) #[true, true, true, false, false, false, false, false, false] rfl rfl (by kernel_rfl) (fun _ _ _ h => h) (Or.inl ⟨by rfl, ?_⟩) ?_ ?_
            rotate_left
            · intro w'
              go_simp
              with_reducible rfl
            rotate_left
            · simp only [Act.put, List.setIfInBounds_toArray, List.set_cons_zero, List.set_cons_succ, i64_w, i32_w]
              rfl
            refine pure_ (i := 4) (N := some 56) (v := ?_) (a' := ?_) #[true, true, true, false, true, false, false, false, false] rfl rfl (by kernel_rfl) (fun _ _ _ h => h) (Or.inl ⟨by rfl, ?_⟩) ?_ ?_
            rotate_left
            · intro w'
              go_simp
              with_reducible rfl
            rotate_left
            · simp only [Act.put, List.setIfInBounds_toArray, List.set_cons_zero, List.set_cons_succ, i64_w, i32_w]
              rfl
            refine pure_ (i := 5) (N := some 57) (v := ?_) (a' := ?_) #[true, true, true, false, true, true, false, false, false] rfl rfl (by kernel_rfl) (fun _ _ _ h => h) (Or.inl ⟨by rfl, ?_⟩) ?_ ?_
            rotate_left
            · intro w'
              go_simp
              with_reducible rfl
            rotate_left
            · simp only [Act.put, List.setIfInBounds_toArray, List.set_cons_zero, List.set_cons_succ, i64_w, i32_w]
              rfl
            refine pure_ (i := 6) (N := some 58) (v := ?_) (a' := ?_) #[true, true, true, false, true, true, true, false, false] rfl rfl (by kernel_rfl) (fun _ _ _ h => h) (Or.inl ⟨by rfl, ?_⟩) ?_ ?_
            rotate_left
            · intro w'
              go_simp
              with_reducible rfl
            rotate_left
            · simp only [Act.put, List.setIfInBounds_toArray, List.set_cons_zero, List.set_cons_succ, i64_w, i32_w]
              rfl
            refine take_ (i := 3) (N := some 55) (v := ?_) (a' := ?_) #[true, true, true, true, true, true, true, false, false] rfl rfl (by kernel_rfl) (fun _ _ _ h => h) (Or.inl ⟨by rfl, ?_⟩) hHeld ?_ ?_
            rotate_left
            · rintro w' ⟨s0, s1, s2, s3, s4, s5, s6, s7⟩
              go_simp
              with_reducible rfl
            rotate_left
            · simp only [Act.put, List.setIfInBounds_toArray, List.set_cons_zero, List.set_cons_succ, i64_w, i32_w]
              rfl
            refine take_ (i := 7) (N := some 59) (v := ?_) (a' := ?_) #[true, true, true, true, true, true, true, true, false] rfl rfl (by kernel_rfl) (fun _ _ _ h => h) (Or.inl ⟨by rfl, ?_⟩) hHeld ?_ ?_
            rotate_left
            · rintro w' ⟨s0, s1, s2, s3, s4, s5, s6, s7⟩
              go_simp
              with_reducible rfl
            rotate_left
            · simp only [Act.put, List.setIfInBounds_toArray, List.set_cons_zero, List.set_cons_succ, i64_w, i32_w]
              rfl
            refine pure_ (i := 8) (N := some 60) (v := ?_) (a' := ?_) #[true, true, true, true, true, true, true, true, true] rfl rfl (by kernel_rfl) (fun _ _ _ h => h) (Or.inl ⟨by rfl, ?_⟩) ?_ ?_
            rotate_left
            · intro w'
              go_simp
              with_reducible rfl
            rotate_left
            · simp only [Act.put, List.setIfInBounds_toArray, List.set_cons_zero, List.set_cons_succ, i64_w, i32_w]
              rfl
            refine done_ (by kernel_rfl) ?_
            have HBa := Aside0.mk hHeld.1
            have HBb := Aside0.mk hHeld.2.1
            clear hHeld x0 x1 x2 y0 y1 y2 hE
            cases q
            · have hne : T ≠ l := fun e => by
                have h2 : Y = X := by rw [← HX.out, ← HYi.out, e]
                have h3 := (ext_eq Y X).2 h2
                rw [← Hq.out] at h3
                exact Bool.false_ne_true h3
              have hf := HT.out hne
              rw [HR.out] at hf
              subst hf
              clear hne
              go_wp2_with fail
              go_ret
              exact ⟨rfl, HBa.out⟩
            · have HG2 : Aside0 (∀ j, j < i + 1 → rd_T96 T (j : Int) = rd_T96 l (j : Int)) := ⟨fun j hj => by
                by_cases e : j = i
                · rw [e, HX.out, HYi.out]; exact (ext_eq Y X).1 Hq.out.symm
                · exact HG.out j (by omega)⟩
              clear HG HB HB5 Hq
              go_wp2_with fail
              go_roundg kk
              case measure => omega
              case rel => exact ⟨i + 1, by omega, by go_num, HBa, HBb, HG2⟩
          · obtain rfl : i = l.length := by omega
            have hlt' : ¬ (l.length : Int) < (l.length : Int) := by omega
            have he : T = l := by
              refine List.ext_getElem Hlen.out (fun j h1 h2 => ?_)
              have := HG.out j h2
              rw [rdT_at T j h1, rdT_at l j h2] at this
              exact this
            have hf := HY.out he
            rw [HR.out] at hf
            subst hf
            clear he HG
            go_wp2_with fail
            go_ret
            exact ⟨rfl, HB.out⟩
      · have hlen' : ¬ (T.length : Int) = (l.length : Int) := by omega
        have hf := HT.out (fun e => hlen (by rw [e]))
        rw [HR.out] at hf
        subst hf
        clear hlen
        go_wp2_with fail
        go_ret
        exact ⟨rfl, HB.out⟩
end Go.Proofs.Ytacmfpkmcefcfaa.Hand
end
