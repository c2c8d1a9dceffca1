/- Maps of blocks, as the reference has them: an array of 64 numbers. -/
import Derived.Test.YtmbigclkmclbdaaAbs
import Derived.Deep.WholeRow
import Derived.BigQuiet
import Derived.Test.YtmbigclkmclbdaaAx0
import Derived.Test.YtmbigclkmclbdaaAx15
import Derived.Test.YtmbigclkmclbdaaAx16
namespace Go.Proofs.Ytmbigclkmclbdaa.Maps
open Go.RowKit Go.Proofs.YtmbigclkmclbdaaW.PrintWords Go.Proofs.YtmbigclkmclbdaaW.PrintLast Go.Proofs.YtmbigclkmclbdaaW.PrintMore Go.Proofs.Ytmbigclkmclbdaa.A Go.Proofs.Ytmbigclkmclbdaa.Hand
set_option linter.unusedVariables false
set_option linter.unusedSimpArgs false
attribute [local go_sem] max2_int min2_int max_two min_two max_three min_three max_four min_four
def mapArr (m : List Int) : Array Value := (m.map (Value.int .i64)).toArray
theorem mapArr_get (m : List Int) (i : Nat) (h : i < m.length) : (mapArr m)[i]? = some (.int .i64 (m.getD i 0)) := by
  unfold mapArr
  rw [List.getElem?_toArray, List.getElem?_map, List.getElem?_eq_getElem h, List.getD_eq_getElem?_getD, List.getElem?_eq_getElem h]; rfl
theorem mapArr_size (m : List Int) : (mapArr m).size = m.length := by unfold mapArr; simp
theorem mapArr_one (m : List Int) : (mapArr m).all (·.oneCell') = true := by
  unfold mapArr
  rw [List.all_toArray, List.all_map, List.all_eq_true]
  intro b _; rfl
theorem infoM : (Try.prog.info? 46).map (·.size) = some 64 := by kernel_rfl
theorem mapArr_set (m : List Int) (i : Nat) (b : Int) : (mapArr m).setIfInBounds i (.int .i64 b) = mapArr (m.set i b) := by
  unfold mapArr
  rw [List.setIfInBounds_toArray, List.map_set]
def noneM : List Int := List.replicate 64 (-1)
theorem noneM_length : noneM.length = 64 := List.length_replicate
/-- May an extent be by itself? -/
def alone (x : S29) : Prop := 0 ≤ x.f0 ∧ 1 ≤ x.f1 ∧ x.f0 + x.f1 ≤ 64 ∧ 0 ≤ x.f2 ∧ (x.f2 = 0 ∨ x.f2 + x.f1 ≤ 61)
instance (x : S29) : Decidable (alone x) := by unfold alone; infer_instance
/-- The first so many blocks of an extent are as it says. -/
def stM (m : List Int) (f : Nat) (id : Int) : Nat → List Int
  | 0 => m
  | n + 1 => (stM m f id n).set (f + n) (if id > 0 then id + n else 0)
theorem stM_length (m : List Int) (f : Nat) (id : Int) : ∀ n, (stM m f id n).length = m.length
  | 0 => rfl
  | n + 1 => by rw [stM, List.length_set, stM_length m f id n]
def setM (m : List Int) (x : S29) : List Int := if alone x then stM m x.f0.toNat x.f2 x.f1.toNat else m
theorem setM_length (m : List Int) (x : S29) : (setM m x).length = m.length := by
  unfold setM; split
  · exact stM_length _ _ _ _
  · rfl
def ofM (l : List S29) : List Int := l.foldl setM noneM
theorem foldM_length (l : List S29) : ∀ m : List Int, (l.foldl setM m).length = m.length := by
  induction l with
  | nil => intro m; rfl
  | cons x l ih => intro m; exact (ih (setM m x)).trans (setM_length m x)
theorem ofM_length (l : List S29) : (ofM l).length = 64 := (foldM_length l noneM).trans noneM_length
theorem ofM_snoc (l : List S29) (i : Nat) (h : i < l.length) : ofM (l.take (i + 1)) = setM (ofM (l.take i)) (rd_T29 l i) := by
  unfold ofM
  rw [List.take_succ_eq_append_getElem h, List.foldl_append]
  show setM _ l[i] = setM _ (l.getD (i : Int).toNat z29)
  rw [Int.toNat_natCast, List.getD_eq_getElem?_getD, List.getElem?_eq_getElem h]; rfl
theorem ralone_eq (x : S29) : emulsionref1_Alone.f x.f0 x.f1 x.f2 = some (decide (alone x)) := by
  unfold emulsionref1_Alone.f emulsionref1_Whole.f
  obtain ⟨a, b, c⟩ := x
  have hA : alone ⟨a, b, c⟩ ↔ (0 ≤ a ∧ 1 ≤ b ∧ a + b ≤ 64 ∧ 0 ≤ c ∧ (c = 0 ∨ c + b ≤ 61)) := Iff.rfl
  simp only
  repeat' split
  all_goals (simp only [Option.bind_some, if_true, Bool.false_eq_true, if_false])
  all_goals (repeat' split)
  all_goals (try simp only [decide_eq_true_eq] at *)
  all_goals (try unfold wrap64 at *)
  all_goals first
    | (exfalso; omega)
    | (rw [decide_eq_true (hA.2 (by omega))])
    | (rw [decide_eq_false (fun h => by have := hA.1 h; omega)])
    | (congr 1; apply decide_eq_decide.2; rw [hA]; omega)
theorem rep_set (n i : Nat) (h : i < n) : (List.replicate i (-1 : Int) ++ List.replicate (n - i) 0).set i (-1) = List.replicate (i + 1) (-1) ++ List.replicate (n - (i + 1)) 0 := by
  rw [List.set_append_right _ _ (by simp)]
  simp only [List.length_replicate, Nat.sub_self]
  rw [show n - i = (n - (i + 1)) + 1 by omega, List.replicate_succ, List.set_cons_zero, List.replicate_succ', List.append_assoc]; rfl
set_option maxRecDepth 100000 in
set_option maxHeartbeats 1600000 in
theorem none_calls (w : World) : Calls Try.prog 41 #[] w fun e w' => e = .returned (.agg (mapArr noneM)) ∧ Below w.heap.size w w' := by
  go_enter Try.func41, Try.ntmps41
  go_wp2_with fail
  go_loopg [2] 64 (fun kq v wq => ∃ i : Nat, i + kq = 64 ∧ v = .int .i64 i ∧ Aside0 (Below w.heap.size w wq) ∧ Aside0 (Blk wq w.heap.size 46 (mapArr (List.replicate 64 0))) ∧ Aside0 (Blk wq (w.heap.size + 1) 46 (mapArr (List.replicate i (-1) ++ List.replicate (64 - i) 0))))
  case atStart =>
    refine ⟨0, by omega, rfl, ⟨by repeat (first | exact Below.refl _ _ | apply below_alloc)⟩, ⟨?_⟩, ⟨?_⟩⟩
    · exact (Blk.new w 46 (mapArr (List.replicate 64 0))).alloc _
    · exact Blk.new2 _ _ _ _
  case round =>
    obtain ⟨i, hi, rfl, HB, HX, HZ⟩ := hrel
    by_cases hlt : i < 64
    · obtain ⟨kk, rfl⟩ : ∃ q, gk = q + 1 := ⟨gk - 1, by omega⟩
      have hlt' : (i : Int) < 64 := by omega
      have hk0 : (0 : Int) ≤ (i : Int) := by omega
      have hcell : wr.cell? ⟨w.heap.size + 1, i, none⟩ = some (.int .i64 ((List.replicate i (-1) ++ List.replicate (64 - i) 0).getD i 0)) := HZ.out.cell (mapArr_get _ _ (by simp; omega))
      have hfroz : wr.frozen? ⟨w.heap.size + 1, i, none⟩ = false := HZ.out.frozen _
      go_wp2_with fail
      go_roundg kk
      case measure => omega
      case rel =>
        refine ⟨i + 1, by omega, by go_num, ⟨below_set HB.out (Nat.le_succ _)⟩, ⟨HX.out.far (by simp) _⟩, ⟨?_⟩⟩
        have h := HZ.out.set_ i (.int .i64 (-1))
        rwa [mapArr_set, rep_set 64 i hlt] at h
    · obtain rfl : i = 64 := by omega
      have e1 : Aside0 (Blk wr (w.heap.size + 1) 46 (mapArr noneM)) := ⟨by have := HZ.out; simpa [noneM] using this⟩
      clear HZ
      go_wp2_with (first | (with_reducible refine wpList_load_row rfl 46 (.tmp 1) rfl (w.heap.size + 1) rfl 46 _ (0, 0) _ e1.out.hd Try.underlying46 rfl (by rw [mapArr_size, noneM_length]; exact infoM) ?_) | (with_reducible refine wpList_store_row rfl 46 (.tmp 0) (.tmp 9) rfl w.heap.size (mapArr noneM) rfl rfl 46 (mapArr (List.replicate 64 0)) HX.out.hd (by rw [mapArr_size, noneM_length]; exact infoM) (by rw [mapArr_size, mapArr_size, noneM_length, List.length_replicate]) (mapArr_one _) ?_))
      have HZ2 : Blk (wr.setRow w.heap.size (mapArr noneM)) w.heap.size 46 (mapArr noneM) := setRow_heap _ _ _ _ _ _ HX.out.hd
      exact bodyPost_ret (v := .agg (mapArr noneM)) (results_cell_row rfl _ _ w.heap.size 46 _ (0, 0) _ rfl HZ2.hd Try.underlying46 rfl (by rw [mapArr_size, noneM_length]; exact infoM)) rfl ⟨rfl, below_setRow HB.out (by omega) _⟩
theorem Blk.new3 (w : World) (a b : Obj) (t : TypeId) (cs : Array Value) : Blk (((w.alloc a).alloc b).alloc (.cells cs t)) (w.heap.size + 2) t cs := by
  have h := Blk.new ((w.alloc a).alloc b) t cs
  simpa using h
theorem ext_ok {w : World} {A : Option Addr} {l : List S29} (h : Kd.C k29 w A l.length l) : (l.length : Int) ≤ 9223372036854775807 := by have := h.2.1; omega
set_option maxRecDepth 100000 in
set_option maxHeartbeats 1600000 in
theorem set_calls (m : List Int) (hm : m.length = 64) (x : S29) (w : World) :
    Calls Try.prog 29 #[.agg (mapArr m), .agg #[.int .i64 x.f0, .int .i64 x.f1, .int .i64 x.f2]] w fun e w' => e = .returned (.agg (mapArr (setM m x))) ∧ Below w.heap.size w w' := by
  have HM := Aside0.mk hm
  obtain ⟨F, M, D⟩ := x
  have hA := Aside0.mk (ralone_eq ⟨F, M, D⟩)
  have hS := Aside0.mk (show setM m ⟨F, M, D⟩ = if alone ⟨F, M, D⟩ then stM m F.toNat D M.toNat else m from rfl)
  clear hm
  by_cases ha : alone ⟨F, M, D⟩
  · rw [decide_eq_true ha, ] at hA
    rw [if_pos ha] at hS
    obtain ⟨f, rfl⟩ := Int.eq_ofNat_of_zero_le ha.1
    obtain ⟨n, rfl⟩ := Int.eq_ofNat_of_zero_le (show 0 ≤ M by have := ha.2.1; simp only at this; omega)
    have hfn : f + n ≤ 64 := by have := ha.2.2.1; simp only at this; omega
    have hd0 : 0 ≤ D := ha.2.2.2.1
    have hd1 : D ≤ 60 := by have := ha.2.2.2.2; have := ha.2.1; simp only at *; omega
    simp only [Int.toNat_natCast] at hS
    clear ha
    go_enter Try.func29, Try.ntmps29
    go_wp2_with fail
    go_loopg [5] n (fun kq v wq => ∃ k : Nat, k + kq = n ∧ v = .int .i64 k ∧ Aside0 (Below w.heap.size w wq) ∧ Aside0 (Blk wq w.heap.size 46 (mapArr (stM m f D k))) ∧ Aside0 (Blk wq (w.heap.size + 1) 29 #[.int .i64 (f : Int), .int .i64 (n : Int), .int .i64 D]) ∧ Aside0 (Blk wq (w.heap.size + 2) 46 (mapArr (List.replicate 64 0))))
    case atStart =>
      refine ⟨0, by omega, rfl, ⟨by repeat (first | exact Below.refl _ _ | apply below_alloc)⟩, ⟨?_⟩, ⟨?_⟩, ⟨?_⟩⟩
      · exact ((Blk.new w 46 (mapArr m)).alloc _).alloc _
      · exact (Blk.new2 w _ _ _).alloc _
      · exact Blk.new3 w _ _ _ _
    case round =>
      obtain ⟨k, hk, rfl, HB, HX, HE, HZ⟩ := hrel
      have y0 : wr.cell? ⟨w.heap.size + 1, 0, none⟩ = some (.int .i64 (f : Int)) := HE.out.cell rfl
      have y1 : wr.cell? ⟨w.heap.size + 1, 1, none⟩ = some (.int .i64 (n : Int)) := HE.out.cell rfl
      have y2 : wr.cell? ⟨w.heap.size + 1, 2, none⟩ = some (.int .i64 D) := HE.out.cell rfl
      go_wp2_with fail
      refine (emulsionref1_Alone.calls (f : Int) (n : Int) D true _ hA.out).mono ?_
      rintro e w1 ⟨rfl, hB⟩
      have HB2 : Aside0 (Below w.heap.size w w1) := ⟨below_step HB.out hB⟩
      have HX2 := Aside0.mk (HX.out.keep hB)
      have HE2 := Aside0.mk (HE.out.keep hB)
      have HZ2 := Aside0.mk (HZ.out.keep hB)
      replace y0 := keepP hB y0
      replace y1 := keepP hB y1
      replace y2 := keepP hB y2
      clear HB HX HE HZ hB
      have hf0 : (0 : Int) ≤ (f : Int) + (k : Int) := by omega
      by_cases hkm : k < n
      · have hkm' : (k : Int) < (n : Int) := by omega
        have hf1 : (f : Int) + (k : Int) < 64 := by omega
        have hcell : w1.cell? ⟨w.heap.size, f + k, none⟩ = some (.int .i64 ((stM m f D k).getD (f + k) 0)) := HX2.out.cell (mapArr_get _ _ (by rw [stM_length, HM.out]; omega))
        have hfroz : w1.frozen? ⟨w.heap.size, f + k, none⟩ = false := HX2.out.frozen _
        obtain ⟨ig, rfl⟩ : ∃ q, gk = q + 1 := ⟨gk - 1, by omega⟩
        by_cases hD : 0 < D
        · have hst : Aside0 (stM m f D (k + 1) = (stM m f D k).set (f + k) (D + k)) := ⟨by rw [stM, if_pos hD]⟩
          go_wp2_with fail
          go_roundg ig
          case measure => omega
          case rel =>
            refine ⟨k + 1, by omega, by go_num, ⟨by repeat (first | exact HB2.out | apply below_set _ (Nat.le_refl _))⟩, ⟨?_⟩, ⟨?_⟩, ⟨?_⟩⟩
            · rw [hst.out]
              have h := (HX2.out.set_ (f + k) (.int .i64 0)).set_ (f + k) (.int .i64 (D + k))
              rw [mapArr_set, mapArr_set, List.set_set] at h
              exact h
            · exact (HE2.out.far (by simp) _).far (by simp) _
            · exact (HZ2.out.far (by simp) _).far (by simp) _
        · have hst : Aside0 (stM m f D (k + 1) = (stM m f D k).set (f + k) 0) := ⟨by rw [stM, if_neg hD]⟩
          go_wp2_with fail
          go_roundg ig
          case measure => omega
          case rel =>
            refine ⟨k + 1, by omega, by go_num, ⟨by repeat (first | exact HB2.out | apply below_set _ (Nat.le_refl _))⟩, ⟨?_⟩, ⟨?_⟩, ⟨?_⟩⟩
            · rw [hst.out]
              have h := HX2.out.set_ (f + k) (.int .i64 0)
              rw [mapArr_set] at h
              exact h
            · exact HE2.out.far (by simp) _
            · exact HZ2.out.far (by simp) _
      · have hkm' : ¬ (k : Int) < (n : Int) := by omega
        obtain rfl : k = n := by omega
        rw [← hS.out] at HX2
        have hl : Aside0 ((setM m ⟨(f : Int), (k : Int), D⟩).length = 64) := ⟨by rw [setM_length, HM.out]⟩
        generalize hgen : setM m ⟨(f : Int), (k : Int), D⟩ = m' at *
        go_wp2_with (first | (with_reducible refine wpList_load_row rfl 46 (.tmp 2) rfl w.heap.size rfl 46 _ (0, 0) _ HX2.out.hd Try.underlying46 rfl (by rw [mapArr_size, hl.out]; exact infoM) ?_) | (with_reducible refine wpList_store_row rfl 46 (.tmp 4) (.tmp 33) rfl (w.heap.size + 2) (mapArr m') rfl rfl 46 (mapArr (List.replicate 64 0)) HZ2.out.hd (by rw [mapArr_size, hl.out]; exact infoM) (by rw [mapArr_size, mapArr_size, hl.out, List.length_replicate]) (mapArr_one _) ?_))
        have HZ3 : Blk (w1.setRow (w.heap.size + 2) (mapArr m')) (w.heap.size + 2) 46 (mapArr m') := setRow_heap _ _ _ _ _ _ HZ2.out.hd
        exact bodyPost_ret (v := .agg (mapArr m')) (results_cell_row rfl _ _ (w.heap.size + 2) 46 _ (0, 0) _ rfl HZ3.hd Try.underlying46 rfl (by rw [mapArr_size, hl.out]; exact infoM)) rfl ⟨by rw [hgen], below_setRow HB2.out (by omega) _⟩
  · rw [decide_eq_false ha] at hA
    rw [if_neg ha] at hS
    clear ha
    go_enter Try.func29, Try.ntmps29
    go_wp2_with fail
    go_loopg [5] 0 (fun kq v wq => v = .int .i64 0 ∧ Aside0 (Below w.heap.size w wq) ∧ Aside0 (Blk wq w.heap.size 46 (mapArr m)) ∧ Aside0 (Blk wq (w.heap.size + 1) 29 #[.int .i64 F, .int .i64 M, .int .i64 D]) ∧ Aside0 (Blk wq (w.heap.size + 2) 46 (mapArr (List.replicate 64 0))))
    case atStart =>
      refine ⟨rfl, ⟨by repeat (first | exact Below.refl _ _ | apply below_alloc)⟩, ⟨?_⟩, ⟨?_⟩, ⟨?_⟩⟩
      · exact ((Blk.new w 46 (mapArr m)).alloc _).alloc _
      · exact (Blk.new2 w _ _ _).alloc _
      · exact Blk.new3 w _ _ _ _
    case round =>
      obtain ⟨rfl, HB, HX, HE, HZ⟩ := hrel
      have y0 : wr.cell? ⟨w.heap.size + 1, 0, none⟩ = some (.int .i64 F) := HE.out.cell rfl
      have y1 : wr.cell? ⟨w.heap.size + 1, 1, none⟩ = some (.int .i64 M) := HE.out.cell rfl
      have y2 : wr.cell? ⟨w.heap.size + 1, 2, none⟩ = some (.int .i64 D) := HE.out.cell rfl
      go_wp2_with fail
      refine (emulsionref1_Alone.calls F M D false _ hA.out).mono ?_
      rintro e w1 ⟨rfl, hB⟩
      have HB2 : Aside0 (Below w.heap.size w w1) := ⟨below_step HB.out hB⟩
      have HX2 := Aside0.mk (HX.out.keep hB)
      have HZ2 := Aside0.mk (HZ.out.keep hB)
      clear HB HX HE HZ hB
      go_wp2_with (first | (with_reducible refine wpList_load_row rfl 46 (.tmp 2) rfl w.heap.size rfl 46 _ (0, 0) _ HX2.out.hd Try.underlying46 rfl (by rw [mapArr_size, HM.out]; exact infoM) ?_) | (with_reducible refine wpList_store_row rfl 46 (.tmp 4) (.tmp 33) rfl (w.heap.size + 2) (mapArr m) rfl rfl 46 (mapArr (List.replicate 64 0)) HZ2.out.hd (by rw [mapArr_size, HM.out]; exact infoM) (by rw [mapArr_size, mapArr_size, HM.out, List.length_replicate]) (mapArr_one _) ?_))
      have HZ3 : Blk (w1.setRow (w.heap.size + 2) (mapArr m)) (w.heap.size + 2) 46 (mapArr m) := setRow_heap _ _ _ _ _ _ HZ2.out.hd
      exact bodyPost_ret (v := .agg (mapArr m)) (results_cell_row rfl _ _ (w.heap.size + 2) 46 _ (0, 0) _ rfl HZ3.hd Try.underlying46 rfl (by rw [mapArr_size, HM.out]; exact infoM)) rfl ⟨by rw [hS.out], below_setRow HB2.out (by omega) _⟩
set_option maxRecDepth 100000 in
set_option maxHeartbeats 1600000 in
theorem of_calls (A : Option Addr) (c : Nat) (l : List S29) (w : World) (hr : Kd.C k29 w A l.length l) :
    Calls Try.prog 23 #[.slice A l.length c] w fun e w' => e = .returned (.agg (mapArr (ofM l))) ∧ Below w.heap.size w w' := by
  have HR := Aside0.mk hr
  have hl64 := ext_ok hr
  clear hr
  go_enter Try.func23, Try.ntmps23
  go_wp2_with fail
  refine (none_calls _).mono ?_
  rintro e w1 ⟨rfl, hB⟩
  have HX := Aside0.mk ((Blk.new w 46 (mapArr (List.replicate 64 0))).keep hB)
  have HB := Aside0.mk (below_step (below_alloc (Below.refl w.heap.size w) _) hB)
  have hlt0 := Aside0.mk (show w.heap.size < w1.heap.size by have := hB.size; simp at this; omega)
  clear hB
  go_wp2_with (with_reducible refine wpList_store_row rfl 46 (.tmp 3) (.tmp 5) rfl w1.heap.size (mapArr noneM) rfl rfl 46 (mapArr (List.replicate 64 0)) (heap_alloc_new _ _) (by rw [mapArr_size, noneM_length]; exact infoM) (by rw [mapArr_size, mapArr_size, noneM_length, List.length_replicate]) (mapArr_one _) ?_)
  rw [World.setRow_alloc_new]
  refine code_abs (fun X => Below w.heap.size w X ∧ Blk X w.heap.size 46 (mapArr (List.replicate 64 0)) ∧ Blk X w1.heap.size 46 (mapArr noneM)) ⟨below_alloc HB.out _, HX.out.alloc _, Blk.new _ _ _⟩ ?_
  rintro w2 ⟨hb, s1, s2⟩
  have HB2 := Aside0.mk hb
  have HX2 := Aside0.mk s1
  have HM2 := Aside0.mk s2
  clear hb s1 s2 HB HX
  generalize w1.heap.size = gm at *
  go_wp2_with fail
  go_loopg [4] l.length (fun kq v wq => ∃ i : Nat, i + kq = l.length ∧ v = .int .i64 (i : Int) ∧ Aside0 (Below w.heap.size w wq) ∧ Aside0 (Blk wq w.heap.size 46 (mapArr (List.replicate 64 0))) ∧ Aside0 (Blk wq gm 46 (mapArr (ofM (l.take i)))))
  case atStart => exact ⟨0, by omega, rfl, HB2, HX2, HM2⟩
  case round =>
    clear HB2 HX2 HM2
    obtain ⟨i, hi, rfl, HB, HX, HM⟩ := hrel
    have hlm := Aside0.mk (ofM_length (l.take i))
    by_cases hlt : i < l.length
    · have hlt' : (i : Int) < (l.length : Int) := by omega
      have hk0 : (0 : Int) ≤ (i : Int) := by omega
      obtain ⟨ad, e1, c0, c1, c2⟩ := at_T29 (Kd.C_below HR.out HB.out) (i : Int) (by omega) (by omega)
      subst e1
      rw [Int.toNat_natCast] at c0 c1 c2
      obtain ⟨ad', e1, z0, _, _⟩ := at_T29 HR.out (i : Int) (by omega) (by omega)
      cases e1
      have hone := Aside0.mk (ofM_snoc l i hlt)
      clear z0
      obtain ⟨kk, rfl⟩ : ∃ z, gk = z + 1 := ⟨gk - 1, by omega⟩
      generalize rd_T29 l (i : Int) = X at *
      obtain ⟨F, M, D⟩ := X
      simp only at c0 c1 c2
      generalize ofM (l.take i) = m at *
      have hls := Aside0.mk ((setM_length m ⟨F, M, D⟩).trans hlm.out)
      go_wp2_with fail
      refine start_ (n := 7) (S := fun w' => Below w.heap.size w w' ∧ Blk w' w.heap.size 46 (mapArr (List.replicate 64 0)) ∧ Blk w' gm 46 (mapArr m) ∧ w'.cell? (ad.add (i * 3)) = some (.int .i64 F) ∧ w'.cell? ⟨(ad.add (i * 3)).block, (ad.add (i * 3)).off + 1, none⟩ = some (.int .i64 M) ∧ w'.cell? ⟨(ad.add (i * 3)).block, (ad.add (i * 3)).off + 2, none⟩ = some (.int .i64 D)) (ds := [6]) #[false, false, false, false, false, false, false] (by kernel_rfl) rfl rfl ⟨(below_drew1 HB.out), (Blk.drew HX.out), (Blk.drew HM.out), c0, c1, c2⟩ (fun hHeld => ?_)
      refine pure_ (i := 1) (N := some 13) (v := ?_) (a' := ?_) #[false, true, false, false, false, false, false] rfl rfl (by kernel_rfl) (fun _ _ _ h => h) (Or.inl ⟨by rfl, ?_⟩) ?_ ?_
      rotate_left
      · intro w'
        go_simp
        with_reducible rfl
      rotate_left
      · simp only [Act.put, List.setIfInBounds_toArray, List.set_cons_zero, List.set_cons_succ, i64_w, i32_w]
        rfl
      refine pure_ (i := 2) (N := some 14) (v := ?_) (a' := ?_) #[false, true, true, false, false, false, false] rfl rfl (by kernel_rfl) (fun _ _ _ h => h) (Or.inl ⟨by rfl, ?_⟩) ?_ ?_
      rotate_left
      · intro w'
        go_simp
        with_reducible rfl
      rotate_left
      · simp only [Act.put, List.setIfInBounds_toArray, List.set_cons_zero, List.set_cons_succ, i64_w, i32_w]
        rfl
      refine pure_ (i := 3) (N := some 15) (v := ?_) (a' := ?_) #[false, true, true, true, false, false, false] rfl rfl (by kernel_rfl) (fun _ _ _ h => h) (Or.inl ⟨by rfl, ?_⟩) ?_ ?_
      rotate_left
      · intro w'
        go_simp
        with_reducible rfl
      rotate_left
      · simp only [Act.put, List.setIfInBounds_toArray, List.set_cons_zero, List.set_cons_succ, i64_w, i32_w]
        rfl
      refine take_ (i := 0) (N := some 12) (v := ?_) (a' := ?_) #[true, true, true, true, false, false, false] rfl rfl (by kernel_rfl) (fun _ _ _ h => h) (Or.inl ⟨by rfl, ?_⟩) hHeld ?_ ?_
      rotate_left
      · rintro w' ⟨s0, s1, s2, s3, s4, s5⟩
        refine row_yields 46 (.tmp 3) ?_ gm ?_ 46 (mapArr m) (0, 0) _ s2.hd Try.underlying46 rfl (by rw [mapArr_size, hlm.out]; exact infoM)
        · rfl
        · rfl
      rotate_left
      · simp only [Act.put, List.setIfInBounds_toArray, List.set_cons_zero, List.set_cons_succ, i64_w, i32_w]
        rfl
      refine take_ (i := 4) (N := some 16) (v := ?_) (a' := ?_) #[true, true, true, true, true, false, false] rfl rfl (by kernel_rfl) (fun _ _ _ h => h) (Or.inl ⟨by rfl, ?_⟩) hHeld ?_ ?_
      rotate_left
      · rintro w' ⟨s0, s1, s2, s3, s4, s5⟩
        go_simp
        with_reducible rfl
      rotate_left
      · simp only [Act.put, List.setIfInBounds_toArray, List.set_cons_zero, List.set_cons_succ, i64_w, i32_w]
        rfl
      refine one_ (i := 5) (N := some 17) #[true, true, true, true, true, true, false] rfl rfl (by kernel_rfl) (by decide) (fun K hK => ?_)
      refine goes_ Try.func29 (by kernel_rfl) rfl #[.agg (mapArr m), .agg #[.int .i64 F, .int .i64 M, .int .i64 D]] (by rfl) rfl rfl (by simp only [List.map_toArray, List.map_cons, List.map_nil]; rfl) ?_
      with_reducible refine (set_calls m hlm.out ⟨F, M, D⟩ _).mono ?_
      rintro e w5 ⟨rfl, hb⟩
      refine ⟨_, rfl, ?_⟩
      refine hK.out _ _ ⟨(below_step hHeld.1 hb), (Blk.keep hHeld.2.1 hb), (Blk.keep hHeld.2.2.1 hb), (keepP hb hHeld.2.2.2.1), (keepP hb hHeld.2.2.2.2.1), (keepP hb hHeld.2.2.2.2.2)⟩ (fun hHeld => ?_)
      clear hK K
      refine norm_ (a' := ?_) ?_ ?_
      rotate_left
      · show Act.put _ (some 17) _ = _
        simp only [Act.put, List.setIfInBounds_toArray, List.set_cons_zero, List.set_cons_succ, i64_w, i32_w]
        rfl
      refine last_ (i := 6) (N := none) #[true, true, true, true, true, true, true] rfl rfl (by kernel_rfl) (by decide) (fun K hK => ?_)
      rw [if_pos (by rfl)]
      refine wp_store_row 46 (.tmp 3) (.tmp 17) (by rfl) gm (mapArr (setM m ⟨F, M, D⟩)) (by rfl) (by rfl) 46 (mapArr m) hHeld.2.2.1.hd (by rw [mapArr_size, hls.out]; exact infoM) (by rw [mapArr_size, mapArr_size, hls.out, hlm.out]) (mapArr_one _) ?_
      refine hK.out _ _ ?_
      clear hK K
      refine done_ (by kernel_rfl) ?_
      have hge : Aside0 (w.heap.size ≤ gm) := ⟨by have := hlt0.out; omega⟩
      have HB6 : Aside0 (Below w.heap.size w (w5.setRow gm (mapArr (setM m ⟨F, M, D⟩)))) := ⟨below_setRow hHeld.1 hge.out _⟩
      have HX6 := Aside0.mk (hHeld.2.1.rowFar (show w.heap.size ≠ gm by have := hlt0.out; omega) (mapArr (setM m ⟨F, M, D⟩)))
      have HM6 := Aside0.mk (hHeld.2.2.1.row (mapArr (setM m ⟨F, M, D⟩)))
      clear hHeld
      generalize w5.setRow gm (mapArr (setM m ⟨F, M, D⟩)) = w6 at *
      go_wp2_with fail
      go_roundg kk
      case measure => omega
      case rel => exact ⟨i + 1, by omega, by go_num, HB6, HX6, ⟨by rw [hone.out]; exact HM6.out⟩⟩
    · obtain rfl : i = l.length := by omega
      have hlt' : ¬ (l.length : Int) < (l.length : Int) := by omega
      rw [List.take_length] at HM hlm
      go_wp2_with (first | (with_reducible refine wpList_load_row rfl 46 (.tmp 3) rfl gm rfl 46 _ (0, 0) _ HM.out.hd Try.underlying46 rfl (by rw [mapArr_size, hlm.out]; exact infoM) ?_) | (with_reducible refine wpList_store_row rfl 46 (.tmp 2) (.tmp 18) rfl w.heap.size (mapArr (ofM l)) rfl rfl 46 (mapArr (List.replicate 64 0)) HX.out.hd (by rw [mapArr_size, hlm.out]; exact infoM) (by rw [mapArr_size, mapArr_size, hlm.out, List.length_replicate]) (mapArr_one _) ?_))
      have HZ3 : Blk (wr.setRow w.heap.size (mapArr (ofM l))) w.heap.size 46 (mapArr (ofM l)) := setRow_heap _ _ _ _ _ _ HX.out.hd
      exact bodyPost_ret (v := .agg (mapArr (ofM l))) (results_cell_row rfl _ _ w.heap.size 46 _ (0, 0) _ rfl HZ3.hd Try.underlying46 rfl (by rw [mapArr_size, hlm.out]; exact infoM)) rfl ⟨rfl, below_setRow HB.out (by omega) _⟩
end Go.Proofs.Ytmbigclkmclbdaa.Maps
namespace Go.Proofs.Ytmbigclkmclbdaa.Maps
open Go.RowKit Go.Proofs.YtmbigclkmclbdaaW.PrintWords Go.Proofs.YtmbigclkmclbdaaW.PrintLast Go.Proofs.YtmbigclkmclbdaaW.PrintMore Go.Proofs.Ytmbigclkmclbdaa.A Go.Proofs.Ytmbigclkmclbdaa.Hand
set_option linter.unusedVariables false
set_option linter.unusedSimpArgs false
attribute [local go_sem] max2_int min2_int max_two min_two max_three min_three max_four min_four
/-- A row of extents of one's own. -/
abbrev ERow (w : World) (base : Nat) (v : Value) (l : List S29) : Prop := Kd.R k29 29 w base (fun _ => True) v l
/-- Is a block one with the block ahead of it? -/
def goesOn (p v : Int) : Prop := v = 0 ∧ p = 0 ∨ 0 < v ∧ 0 < p ∧ v = p + 1
instance (p v : Int) : Decidable (goesOn p v) := by unfold goesOn; infer_instance
def bump (x : S29) : S29 := ⟨x.f0, x.f1 + 1, x.f2⟩
def exStep (m : List Int) (acc : List S29) (k : Nat) : List S29 :=
  if m.getD k 0 < 0 then acc
  else if 0 < k ∧ goesOn (m.getD (k - 1) 0) (m.getD k 0) then acc.set (acc.length - 1) (bump (rd_T29 acc ((acc.length - 1 : Nat) : Int))) else acc ++ [⟨(k : Int), 1, m.getD k 0⟩]
def exN (m : List Int) (k : Nat) : List S29 := (List.range k).foldl (exStep m) []
def exM (m : List Int) : List S29 := exN m 64
theorem exN_succ (m : List Int) (k : Nat) : exN m (k + 1) = exStep m (exN m k) k := by unfold exN; rw [List.range_succ, List.foldl_append]; rfl
theorem exN_some (m : List Int) : ∀ k, 0 ≤ m.getD k 0 → 0 < (exN m (k + 1)).length
  | k, h => by
    rw [exN_succ]
    unfold exStep
    rw [if_neg (by omega)]
    split
    · rename_i hg
      rw [List.length_set]
      obtain ⟨j, rfl⟩ : ∃ j, k = j + 1 := ⟨k - 1, by omega⟩
      exact exN_some m j (by have := hg.2; unfold goesOn at this; simp only [Nat.add_sub_cancel] at this; omega)
    · rw [List.length_append]; simp
theorem exN_f1 (m : List Int) : ∀ k, ∀ x ∈ exN m k, 0 ≤ x.f1 ∧ x.f1 ≤ k
  | 0, x, h => by simp [exN] at h
  | k + 1, x, h => by
    have ih := exN_f1 m k
    rw [exN_succ] at h
    unfold exStep at h
    split at h
    · have := ih x h; omega
    · split at h
      · rename_i hg
        have hn : 0 < (exN m k).length := by
          obtain ⟨j, rfl⟩ : ∃ j, k = j + 1 := ⟨k - 1, by omega⟩
          exact exN_some m j (by have := hg.2; unfold goesOn at this; simp only [Nat.add_sub_cancel] at this; omega)
        rcases List.mem_or_eq_of_mem_set h with h | h
        · have := ih x h; omega
        · subst h
          have hm : rd_T29 (exN m k) (((exN m k).length - 1 : Nat) : Int) ∈ exN m k := by
            show (exN m k).getD _ _ ∈ _
            rw [Int.toNat_natCast, List.getD_eq_getElem?_getD, List.getElem?_eq_getElem (by omega)]
            exact List.getElem_mem _
          have := ih _ hm
          unfold bump
          simp only
          omega
      · rcases List.mem_append.1 h with h | h
        · have := ih x h; omega
        · simp only [List.mem_singleton] at h
          subst h
          simp only
          omega
theorem exN_length (m : List Int) : ∀ k, (exN m k).length ≤ k
  | 0 => by simp [exN]
  | k + 1 => by
    have ih := exN_length m k
    rw [exN_succ]
    unfold exStep
    split
    · omega
    · split
      · rw [List.length_set]; omega
      · rw [List.length_append]; simp only [List.length_cons, List.length_nil]; omega
/-- Entries as they are in a map. -/
def okM (m : List Int) : Prop := m.length = 64 ∧ ∀ j, -1 ≤ m.getD j 0 ∧ m.getD j 0 ≤ 60
theorem okM.step {m : List Int} (h : okM m) (k : Nat) (v : Int) (h0 : -1 ≤ v) (h1 : v ≤ 60) : okM (m.set k v) := by
  refine ⟨by rw [List.length_set]; exact h.1, fun j => ?_⟩
  rw [List.getD_eq_getElem?_getD, List.getElem?_set]
  split
  · split
    · exact ⟨h0, h1⟩
    · simp
  · have := h.2 j
    rw [List.getD_eq_getElem?_getD] at this
    exact this
theorem okM.none : okM noneM := ⟨noneM_length, fun j => by
  unfold noneM
  rw [List.getD_eq_getElem?_getD, List.getElem?_replicate]
  split <;> simp⟩
theorem okM.st {m : List Int} (h : okM m) (f : Nat) (id : Int) (n : Nat) (hid : id = 0 ∨ id + n ≤ 61) (h0 : 0 ≤ id) : ∀ k, k ≤ n → okM (stM m f id k)
  | 0, _ => h
  | k + 1, hk => by
    rw [stM]
    refine (okM.st h f id n hid h0 k (by omega)).step _ _ ?_ ?_
    · split <;> omega
    · split <;> omega
theorem okM.setM {m : List Int} (h : okM m) (x : S29) : okM (setM m x) := by
  unfold Maps.setM
  split
  · rename_i ha
    obtain ⟨a, b, c, d, e⟩ := ha
    exact h.st _ _ x.f1.toNat (by omega) d _ (Nat.le_refl _)
  · exact h
theorem okM.of (l : List S29) : okM (ofM l) := by
  unfold ofM
  have : ∀ (l : List S29) (m : List Int), okM m → okM (l.foldl Maps.setM m) := by
    intro l
    induction l with
    | nil => intro m h; exact h
    | cons x l ih => intro m h; exact ih _ (h.setM x)
  exact this l _ okM.none
set_option maxRecDepth 100000 in
set_option maxHeartbeats 3200000 in
theorem extents_calls (m : List Int) (hm : okM m) (w : World) :
    Calls Try.prog 25 #[.agg (mapArr m)] w fun e w' => ∃ v, e = .returned v ∧ ERow w' w.heap.size v (exM m) ∧ Below w.heap.size w w' := by
  have HM := Aside0.mk hm
  clear hm
  go_enter Try.func25, Try.ntmps25
  go_wp2_with fail
  go_loopg [3, 4] 64 (fun kq u v wq => ∃ k : Nat, k + kq = 64 ∧ v = .int .i64 (k : Int) ∧ Aside0 (Below w.heap.size w wq) ∧ Aside0 (ERow wq w.heap.size u (exN m k)) ∧ Aside0 (Blk wq w.heap.size 46 (mapArr m)))
  case atStart => exact ⟨0, by omega, rfl, ⟨below_alloc (Below.refl _ _) _⟩, ⟨Kd.R_nil _ _ _ _ _⟩, ⟨Blk.new w _ _⟩⟩
  case round =>
    obtain ⟨k, hk, rfl, HB, HR, HX⟩ := hrel
    rename_i u3
    by_cases hlt : k < 64
    · obtain ⟨kk, rfl⟩ : ∃ z, gk = z + 1 := ⟨gk - 1, by omega⟩
      have hk0 : (0 : Int) ≤ (k : Int) := by omega
      have hlt' : (k : Int) < 64 := by omega
      have hb := HM.out.2 k
      have hcell : wr.cell? ⟨w.heap.size, k, none⟩ = some (.int .i64 (m.getD k 0)) := HX.out.cell (mapArr_get _ _ (by rw [HM.out.1]; omega))
      have hsucc := Aside0.mk (exN_succ m k)
      unfold exStep at hsucc
      have hlen := Aside0.mk (exN_length m k)
      by_cases h0 : m.getD k 0 < 0
      · have hs : Aside0 (exN m (k + 1) = exN m k) := ⟨by rw [hsucc.out, if_pos h0]⟩
        clear hsucc
        generalize m.getD k 0 = v0 at *
        go_wp2_with fail
        go_roundg kk
        case measure => omega
        case rel => exact ⟨k + 1, by omega, by go_num, HB, ⟨by rw [hs.out]; exact HR.out⟩, HX⟩
      rw [if_neg h0] at hsucc
      by_cases hg : 0 < k ∧ goesOn (m.getD (k - 1) 0) (m.getD k 0)
      · rw [if_pos hg] at hsucc
        obtain ⟨j, rfl⟩ : ∃ j, k = j + 1 := ⟨k - 1, by omega⟩
        have hg' := hg.2
        clear hg
        simp only [Nat.add_sub_cancel] at hg'
        have hcj : wr.cell? ⟨w.heap.size, j, none⟩ = some (.int .i64 (m.getD j 0)) := HX.out.cell (mapArr_get _ _ (by rw [HM.out.1]; omega))
        have hne := exN_some m j (by unfold goesOn at hg'; omega)
        have hbj := HM.out.2 j
        have hf := Aside0.mk (exN_f1 m (j + 1))
        generalize exN m (j + 1) = acc at *
        obtain ⟨N, hN⟩ : ∃ N, acc.length = N + 1 := ⟨acc.length - 1, by omega⟩
        obtain ⟨g, cap, eu, hgb, hgl, _⟩ := Kd.R_form HR.out hne
        rw [hN] at eu
        subst eu
        simp only [hN, Nat.add_sub_cancel] at hsucc
        have hF := Aside0.mk (show 0 ≤ (rd_T29 acc (N : Int)).f1 ∧ (rd_T29 acc (N : Int)).f1 ≤ ((j + 1 : Nat) : Int) from hf.out _ (by
          show acc.getD _ _ ∈ _
          rw [Int.toNat_natCast, List.getD_eq_getElem?_getD, List.getElem?_eq_getElem (by omega)]
          exact List.getElem_mem _))
        have hge := Aside0.mk hgb
        have hL := Aside0.mk hN
        have hNb : (N : Int) < 64 := by have := hlen.out; omega
        clear hf hgb hgl hne hN
        have hkp : (0 : Int) < ((j : Int) + 1) := by omega
        have hkq : ((j + 1 : Nat) : Int) - 1 = (j : Int) := by omega
        generalize m.getD (j + 1) 0 = v0 at *
        generalize m.getD j 0 = p0 at *
        rcases hg' with ⟨rfl, rfl⟩ | ⟨g1, g2, rfl⟩
        · go_wp2_with fail
          go_quiet (fail)
          have HB2 := Aside0.mk (pw_below_drewN HB.out nq)
          have HR2 := Aside0.mk (Kd.R_drewN HR.out nq)
          have HX2 := Aside0.mk (HX.out.drewN nq)
          clear HB HR HX hcell hcj
          generalize hw2 : wr.drewN nq = w2 at HB2 HR2 HX2 ⊢
          clear hw2
          have hq0 : 0 ≤ (rd_T29 acc (N : Int)).f1 := hF.out.1
          have hq1 : (rd_T29 acc (N : Int)).f1 ≤ 64 := by have := hF.out.2; omega
          obtain ⟨ce, hcl, hM, hcc, hfr⟩ := Kd.R_elem HR2.out z29 (N : Int) (by omega) (by omega)
          obtain rfl := k29_openM hM
          have x1 : w2.cell? ⟨g, N * 3 + 1, none⟩ = some (.int .i64 (rd_T29 acc (N : Int)).f1) := hcc 1 _ rfl
          have f1 : w2.frozen? ⟨g, N * 3 + 1, none⟩ = false := hfr 1
          have HP : Aside0 (ERow (w2.setCell ⟨g, N * 3 + 1, none⟩ (.int .i64 ((rd_T29 acc (N : Int)).f1 + 1))) w.heap.size (.slice (some ⟨g, 0, none⟩) (N + 1) cap) (exN m (j + 1 + 1))) := ⟨by
            have h := (Kd.R_seg HR2.out (N : Int) (by omega) (by omega) (seg := [.int .i64 ((rd_T29 acc (N : Int)).f1 + 1)]) (j := 1) hcl hcc (show 2 ≤ 3 by decide) (x' := bump (rd_T29 acc (N : Int))) (k29_mkM _ _ _ (bump (rd_T29 acc (N : Int)))) (fun _ hk => hk)).1
            rw [Int.toNat_natCast, ← hsucc.out] at h
            exact h⟩
          have hgne : Aside0 (w.heap.size ≠ g) := ⟨fun e => Kd.R_ne HR2.out HX2.out.hd (by decide) (by rw [e]; rfl)⟩
          clear hcl hM hcc hfr
          generalize (rd_T29 acc (N : Int)).f1 = q1 at *
          go_wp2_with fail
          go_roundg kk
          case measure => omega
          case rel => exact ⟨j + 1 + 1, by omega, by go_num, ⟨below_set HB2.out hge.out⟩, HP, ⟨HX2.out.far hgne.out _⟩⟩
        · have e1 : (p0 + 1 == 0) = false := by rw [beq_eq_false_iff_ne]; omega
          go_wp2_with fail
          go_quiet (fail)
          have HB2 := Aside0.mk (pw_below_drewN HB.out nq)
          have HR2 := Aside0.mk (Kd.R_drewN HR.out nq)
          have HX2 := Aside0.mk (HX.out.drewN nq)
          clear HB HR HX hcell hcj
          generalize hw2 : wr.drewN nq = w2 at HB2 HR2 HX2 ⊢
          clear hw2
          have hq0 : 0 ≤ (rd_T29 acc (N : Int)).f1 := hF.out.1
          have hq1 : (rd_T29 acc (N : Int)).f1 ≤ 64 := by have := hF.out.2; omega
          obtain ⟨ce, hcl, hM, hcc, hfr⟩ := Kd.R_elem HR2.out z29 (N : Int) (by omega) (by omega)
          obtain rfl := k29_openM hM
          have x1 : w2.cell? ⟨g, N * 3 + 1, none⟩ = some (.int .i64 (rd_T29 acc (N : Int)).f1) := hcc 1 _ rfl
          have f1 : w2.frozen? ⟨g, N * 3 + 1, none⟩ = false := hfr 1
          have HP : Aside0 (ERow (w2.setCell ⟨g, N * 3 + 1, none⟩ (.int .i64 ((rd_T29 acc (N : Int)).f1 + 1))) w.heap.size (.slice (some ⟨g, 0, none⟩) (N + 1) cap) (exN m (j + 1 + 1))) := ⟨by
            have h := (Kd.R_seg HR2.out (N : Int) (by omega) (by omega) (seg := [.int .i64 ((rd_T29 acc (N : Int)).f1 + 1)]) (j := 1) hcl hcc (show 2 ≤ 3 by decide) (x' := bump (rd_T29 acc (N : Int))) (k29_mkM _ _ _ (bump (rd_T29 acc (N : Int)))) (fun _ hk => hk)).1
            rw [Int.toNat_natCast, ← hsucc.out] at h
            exact h⟩
          have hgne : Aside0 (w.heap.size ≠ g) := ⟨fun e => Kd.R_ne HR2.out HX2.out.hd (by decide) (by rw [e]; rfl)⟩
          clear hcl hM hcc hfr
          generalize (rd_T29 acc (N : Int)).f1 = q1 at *
          go_wp2_with fail
          go_roundg kk
          case measure => omega
          case rel => exact ⟨j + 1 + 1, by omega, by go_num, ⟨below_set HB2.out hge.out⟩, HP, ⟨HX2.out.far hgne.out _⟩⟩
      · rw [if_neg hg] at hsucc
        have hlb : (exN m k).length ≤ 64 := Nat.le_trans hlen.out (by omega)
        by_cases hk1 : k = 0
        · subst hk1
          rw [show ((0 : Nat) : Int) = 0 from rfl] at hsucc
          go_wp2_with fail
          go_quiet (fail)
          have HB2 := Aside0.mk (pw_below_drewN HB.out nq)
          have HR2 := Aside0.mk (Kd.R_drewN HR.out nq)
          have HX2 := Aside0.mk (HX.out.drewN nq)
          clear HB HR HX hcell
          generalize hw2 : wr.drewN nq = w2 at HB2 HR2 HX2 ⊢
          clear hw2
          have hcell := HX2.out.cell (mapArr_get m 0 (by rw [HM.out.1]; omega))
          obtain ⟨A0, c0, rfl, hlc, _⟩ := Kd.R_reads HR2.out
          generalize m.getD 0 0 = v0 at *
          go_wp2_with (at_builtin; refine Kd.R_append k29 (w0 := w) w.heap.size rfl (.tmp 62) (.tmp 68) 22 29 (.agg #[.int .i64 0, .int .i64 0, .int .i64 0]) 24 rfl Try.underlying22 info29 rfl (by decide) (by omega) (.slice A0 (exN m 0).length c0) (exN m 0) ⟨(0 : Int), 1, v0⟩ [.int .i64 (0 : Int), .int .i64 1, .int .i64 v0] (fun _ => True) (fun _ => False) rfl rfl (k29_mkM _ _ _ (⟨(0 : Int), 1, v0⟩ : S29)) (fun _ hk => hk.elim) (fun _ _ => trivial) HR2.out HB2.out HB2.out.size (by omega) ?_; intro v9 w9 hr9 hb9 hg9 hat9)
          have HX9 := Aside0.mk ((hg9.block w.heap.size HX2.out.lt (Kd.R_ne HR2.out HX2.out.hd (by decide))).trans HX2.out)
          have HR9 := Aside0.mk hr9
          have HB9 := Aside0.mk hb9
          clear hr9 hb9 hg9 hat9
          go_wp2_with fail
          go_roundg kk
          case measure => omega
          case rel => exact ⟨0 + 1, by omega, by go_num, HB9, ⟨by rw [hsucc.out]; exact HR9.out⟩, HX9⟩
        obtain ⟨j, rfl⟩ : ∃ j, k = j + 1 := ⟨k - 1, by omega⟩
        have hg' : ¬ goesOn (m.getD j 0) (m.getD (j + 1) 0) := fun h => hg ⟨by omega, by simp only [Nat.add_sub_cancel]; exact h⟩
        unfold goesOn at hg'
        clear hg
        have hcj : wr.cell? ⟨w.heap.size, j, none⟩ = some (.int .i64 (m.getD j 0)) := HX.out.cell (mapArr_get _ _ (by rw [HM.out.1]; omega))
        have hbj := HM.out.2 j
        have hkp : (0 : Int) < ((j : Int) + 1) := by omega
        have hgm := Aside0.mk (mapArr_get m (j + 1) (by rw [HM.out.1]; omega))
        generalize m.getD (j + 1) 0 = v0 at *
        generalize m.getD j 0 = p0 at *
        by_cases z1 : v0 = 0
        · have e1 : (p0 == 0) = false := by rw [beq_eq_false_iff_ne]; omega
          have e0 : (v0 == 0) = true := by rw [z1]; rfl
          have e3 : decide (0 < v0) = false := decide_eq_false (by omega)
          clear z1
          clear hg'
          go_wp2_with fail
          go_quiet (fail)
          have HB2 := Aside0.mk (pw_below_drewN HB.out nq)
          have HR2 := Aside0.mk (Kd.R_drewN HR.out nq)
          have HX2 := Aside0.mk (HX.out.drewN nq)
          clear HB HR HX hcell hcj
          generalize hw2 : wr.drewN nq = w2 at HB2 HR2 HX2 ⊢
          clear hw2
          have hcell := HX2.out.cell hgm.out
          obtain ⟨A0, c0, rfl, hlc, _⟩ := Kd.R_reads HR2.out
          go_wp2_with (at_builtin; refine Kd.R_append k29 (w0 := w) w.heap.size rfl (.tmp 62) (.tmp 68) 22 29 (.agg #[.int .i64 0, .int .i64 0, .int .i64 0]) 24 rfl Try.underlying22 info29 rfl (by decide) (by omega) (.slice A0 (exN m (j + 1)).length c0) (exN m (j + 1)) ⟨(((j + 1) : Nat) : Int), 1, v0⟩ [.int .i64 (((j + 1) : Nat) : Int), .int .i64 1, .int .i64 v0] (fun _ => True) (fun _ => False) rfl rfl (k29_mkM _ _ _ (⟨(((j + 1) : Nat) : Int), 1, v0⟩ : S29)) (fun _ hk => hk.elim) (fun _ _ => trivial) HR2.out HB2.out HB2.out.size (by omega) ?_; intro v9 w9 hr9 hb9 hg9 hat9)
          have HX9 := Aside0.mk ((hg9.block w.heap.size HX2.out.lt (Kd.R_ne HR2.out HX2.out.hd (by decide))).trans HX2.out)
          have HR9 := Aside0.mk hr9
          have HB9 := Aside0.mk hb9
          clear hr9 hb9 hg9 hat9
          go_wp2_with fail
          go_roundg kk
          case measure => omega
          case rel => exact ⟨(j + 1) + 1, by omega, by go_num, HB9, ⟨by rw [hsucc.out]; exact HR9.out⟩, HX9⟩
        by_cases z2 : 0 < p0
        · have e0 : (v0 == 0) = false := by rw [beq_eq_false_iff_ne]; omega
          have e2 : (0 : Int) < v0 := by omega
          have e1 : (v0 == p0 + 1) = false := by rw [beq_eq_false_iff_ne]; omega
          clear hg'
          go_wp2_with fail
          go_quiet (fail)
          have HB2 := Aside0.mk (pw_below_drewN HB.out nq)
          have HR2 := Aside0.mk (Kd.R_drewN HR.out nq)
          have HX2 := Aside0.mk (HX.out.drewN nq)
          clear HB HR HX hcell hcj
          generalize hw2 : wr.drewN nq = w2 at HB2 HR2 HX2 ⊢
          clear hw2
          have hcell := HX2.out.cell hgm.out
          obtain ⟨A0, c0, rfl, hlc, _⟩ := Kd.R_reads HR2.out
          go_wp2_with (at_builtin; refine Kd.R_append k29 (w0 := w) w.heap.size rfl (.tmp 62) (.tmp 68) 22 29 (.agg #[.int .i64 0, .int .i64 0, .int .i64 0]) 24 rfl Try.underlying22 info29 rfl (by decide) (by omega) (.slice A0 (exN m (j + 1)).length c0) (exN m (j + 1)) ⟨(((j + 1) : Nat) : Int), 1, v0⟩ [.int .i64 (((j + 1) : Nat) : Int), .int .i64 1, .int .i64 v0] (fun _ => True) (fun _ => False) rfl rfl (k29_mkM _ _ _ (⟨(((j + 1) : Nat) : Int), 1, v0⟩ : S29)) (fun _ hk => hk.elim) (fun _ _ => trivial) HR2.out HB2.out HB2.out.size (by omega) ?_; intro v9 w9 hr9 hb9 hg9 hat9)
          have HX9 := Aside0.mk ((hg9.block w.heap.size HX2.out.lt (Kd.R_ne HR2.out HX2.out.hd (by decide))).trans HX2.out)
          have HR9 := Aside0.mk hr9
          have HB9 := Aside0.mk hb9
          clear hr9 hb9 hg9 hat9
          go_wp2_with fail
          go_roundg kk
          case measure => omega
          case rel => exact ⟨(j + 1) + 1, by omega, by go_num, HB9, ⟨by rw [hsucc.out]; exact HR9.out⟩, HX9⟩
        · have e0 : (v0 == 0) = false := by rw [beq_eq_false_iff_ne]; omega
          have e2 : (0 : Int) < v0 := by omega
          have e3 : decide (0 < p0) = false := decide_eq_false z2
          clear hg'
          go_wp2_with fail
          go_quiet (fail)
          have HB2 := Aside0.mk (pw_below_drewN HB.out nq)
          have HR2 := Aside0.mk (Kd.R_drewN HR.out nq)
          have HX2 := Aside0.mk (HX.out.drewN nq)
          clear HB HR HX hcell hcj
          generalize hw2 : wr.drewN nq = w2 at HB2 HR2 HX2 ⊢
          clear hw2
          have hcell := HX2.out.cell hgm.out
          obtain ⟨A0, c0, rfl, hlc, _⟩ := Kd.R_reads HR2.out
          go_wp2_with (at_builtin; refine Kd.R_append k29 (w0 := w) w.heap.size rfl (.tmp 62) (.tmp 68) 22 29 (.agg #[.int .i64 0, .int .i64 0, .int .i64 0]) 24 rfl Try.underlying22 info29 rfl (by decide) (by omega) (.slice A0 (exN m (j + 1)).length c0) (exN m (j + 1)) ⟨(((j + 1) : Nat) : Int), 1, v0⟩ [.int .i64 (((j + 1) : Nat) : Int), .int .i64 1, .int .i64 v0] (fun _ => True) (fun _ => False) rfl rfl (k29_mkM _ _ _ (⟨(((j + 1) : Nat) : Int), 1, v0⟩ : S29)) (fun _ hk => hk.elim) (fun _ _ => trivial) HR2.out HB2.out HB2.out.size (by omega) ?_; intro v9 w9 hr9 hb9 hg9 hat9)
          have HX9 := Aside0.mk ((hg9.block w.heap.size HX2.out.lt (Kd.R_ne HR2.out HX2.out.hd (by decide))).trans HX2.out)
          have HR9 := Aside0.mk hr9
          have HB9 := Aside0.mk hb9
          clear hr9 hb9 hg9 hat9
          go_wp2_with fail
          go_roundg kk
          case measure => omega
          case rel => exact ⟨(j + 1) + 1, by omega, by go_num, HB9, ⟨by rw [hsucc.out]; exact HR9.out⟩, HX9⟩
    · obtain rfl : k = 64 := by omega
      go_wp2_with fail
      go_ret
      exact ⟨_, rfl, HR.out, HB.out⟩
end Go.Proofs.Ytmbigclkmclbdaa.Maps
namespace Go.Proofs.Ytmbigclkmclbdaa.Maps
open Go.RowKit Go.Proofs.YtmbigclkmclbdaaW.PrintWords Go.Proofs.YtmbigclkmclbdaaW.PrintLast Go.Proofs.YtmbigclkmclbdaaW.PrintMore Go.Proofs.Ytmbigclkmclbdaa.A Go.Proofs.Ytmbigclkmclbdaa.Hand
set_option linter.unusedVariables false
set_option linter.unusedSimpArgs false
attribute [local go_sem] max2_int min2_int max_two min_two max_three min_three max_four min_four
def law10_Tidy.f (l : List S29) : Option (List S29) := some (exM (ofM l))
set_option maxRecDepth 100000 in
set_option maxHeartbeats 800000 in
theorem law10_Tidy.calls (A0 : Option Addr) (c0 : Nat) (l0 : List S29) (r : List S29) (w : World) (hr0 : Kd.C k29 w A0 l0.length l0) (hc0 : l0.length ≤ c0) (h : law10_Tidy.f l0 = some r) :
    Calls Try.prog 13 #[.slice A0 l0.length c0] w fun e w' => ∃ v0_ : Value, e = .returned (v0_) ∧ Kd.R k29 29 w' w.heap.size (fun _ => True) v0_ r ∧ Below w.heap.size w w' := by
  obtain rfl := Option.some.inj h
  have HR := Aside0.mk hr0
  clear h hr0 hc0
  go_enter Try.func13, Try.ntmps13
  go_wp2_with fail
  refine (of_calls A0 c0 l0 _ HR.out).mono ?_
  rintro e w1 ⟨rfl, hB⟩
  have HB := Aside0.mk hB
  clear hB
  go_wp2_with fail
  refine (extents_calls (ofM l0) (okM.of l0) _).mono ?_
  rintro e w2 ⟨v, rfl, hR, hB⟩
  have HR2 := Aside0.mk (Kd.R_lower hR HB.out.size)
  have HB2 := Aside0.mk (below_step HB.out hB)
  clear hR hB
  go_wp2_with fail
  go_ret
  exact ⟨_, rfl, HR2.out, HB2.out⟩
end Go.Proofs.Ytmbigclkmclbdaa.Maps
