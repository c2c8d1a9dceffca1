/- Sets of blocks, as the reference has them: an array of 64 bools. -/
import Derived.Test.YtffemlfdhkndiaaBase
import Derived.Test.YtffemlfdhkndiaaSpan
import Derived.Test.YtffemlfdhkndiaaAx0
import Derived.Test.YtffemlfdhkndiaaAx4
namespace Go.Proofs.Ytffemlfdhkndiaa.Hand
open Go.RowKit Go.Proofs.YtffemlfdhkndiaaW.PrintWords Go.Proofs.YtffemlfdhkndiaaW.PrintLast Go.Proofs.YtffemlfdhkndiaaW.PrintMore Go.Proofs.Ytffemlfdhkndiaa.A
set_option linter.unusedVariables false
set_option linter.unusedSimpArgs false
attribute [local go_sem] max2_int min2_int max_two min_two max_three min_three max_four min_four
def setArr (s : List Bool) : Array Value := (s.map Value.bool).toArray
theorem setArr_get (s : List Bool) (i : Nat) (h : i < s.length) : (setArr s)[i]? = some (.bool (s.getD i false)) := by
  unfold setArr
  rw [List.getElem?_toArray, List.getElem?_map, List.getElem?_eq_getElem h, List.getD_eq_getElem?_getD, List.getElem?_eq_getElem h]; rfl
theorem setArr_size (s : List Bool) : (setArr s).size = s.length := by unfold setArr; simp
theorem setArr_one (s : List Bool) : (setArr s).all (·.oneCell') = true := by
  unfold setArr
  rw [List.all_toArray, List.all_map, List.all_eq_true]
  intro b _; rfl
theorem info27 : (Try.prog.info? 27).map (·.size) = some 64 := by kernel_rfl
theorem setArr_set (s : List Bool) (i : Nat) (b : Bool) : (setArr s).setIfInBounds i (.bool b) = setArr (s.set i b) := by
  unfold setArr
  rw [List.setIfInBounds_toArray, List.map_set]
/-- Blocks from one on, so many, are as they are told. -/
def setN (s : List Bool) (f : Nat) (on : Bool) : Nat → List Bool
  | 0 => s
  | n + 1 => (setN s f on n).set (f + n) on
theorem setN_length (s : List Bool) (f : Nat) (on : Bool) : ∀ n, (setN s f on n).length = s.length
  | 0 => rfl
  | n + 1 => by rw [setN, List.length_set, setN_length s f on n]
def putOne (s : List Bool) (x : S31) (on : Bool) : List Bool := if wh x.f0 x.f1 then setN s x.f0.toNat on x.f1.toNat else s
theorem putOne_length (s : List Bool) (x : S31) (on : Bool) : (putOne s x on).length = s.length := by
  unfold putOne; split
  · exact setN_length _ _ _ _
  · rfl
def putS (s : List Bool) (l : List S31) (on : Bool) : List Bool := l.foldl (fun s x => putOne s x on) s
theorem putS_length (l : List S31) (on : Bool) : ∀ s : List Bool, (putS s l on).length = s.length := by
  induction l with
  | nil => intro s; rfl
  | cons x l ih => intro s; exact (ih (putOne s x on)).trans (putOne_length s x on)
theorem putS_snoc (s : List Bool) (l : List S31) (on : Bool) (i : Nat) (h : i < l.length) : putS s (l.take (i + 1)) on = putOne (putS s (l.take i) on) (rd_T31 l i) on := by
  unfold putS
  rw [List.take_succ_eq_append_getElem h, List.foldl_append]
  show putOne _ l[i] on = putOne _ (l.getD (i : Int).toNat z31) on
  rw [Int.toNat_natCast, List.getD_eq_getElem?_getD, List.getElem?_eq_getElem h]; rfl
set_option maxRecDepth 100000 in
set_option maxHeartbeats 1600000 in
theorem emulsionref1_Set_Put.calls (s : List Bool) (hs : Aside0 (s.length = 64)) (A : Option Addr) (c : Nat) (l : List S31) (on : Bool) (w : World) (hr : Kd.C k31 w A l.length l) (hc : l.length ≤ c) :
    Calls Try.prog 15 #[.agg (setArr s), .slice A l.length c, .bool on] w fun e w' => (e = .returned (.agg (setArr (putS s l on)))) ∧ Below w.heap.size w w' := by
  have HR := Aside0.mk hr
  have hl64 : (l.length : Int) ≤ 9223372036854775807 := by have := hr.2.1; omega
  clear hr hc
  go_enter Try.func15, Try.ntmps15
  go_wp2_with fail
  go_loopg [7] l.length (fun kq v wq => ∃ i : Nat, i + kq = l.length ∧ v = .int .i64 i ∧ Aside0 (Below w.heap.size w wq) ∧ Aside0 (Blk wq w.heap.size 27 (setArr (putS s (l.take i) on))) ∧ Aside0 (Blk wq (w.heap.size + 1) 27 (setArr (List.replicate 64 false))))
  case atStart =>
    exact ⟨0, by omega, rfl, ⟨by repeat (first | exact Below.refl _ _ | apply below_alloc)⟩, ⟨(Blk.new w 27 (setArr s)).alloc _⟩, ⟨by unfold Blk; rw [show w.heap.size + 1 = (w.alloc (.cells (setArr s) 27)).heap.size by simp]; exact heap_alloc_new _ _⟩⟩
  case round =>
    obtain ⟨i, hi, rfl, HB, HX, HZ⟩ := hrel
    by_cases hlt : i < l.length
    · obtain ⟨ad, e1, x0, x1⟩ := at_T31 (Kd.C_below HR.out HB.out) (i : Int) (by omega) (by omega)
      subst e1
      rw [Int.toNat_natCast] at x0 x1
      obtain ⟨ad', e1, z0, z1⟩ := at_T31 HR.out (i : Int) (by omega) (by omega)
      cases e1
      have hadb : (ad.add (i * 2)).block < w.heap.size := World.block_lt_of_cell? _ _ z0
      clear z0 z1
      obtain ⟨og, rfl⟩ : ∃ q, gk = q + 1 := ⟨gk - 1, by omega⟩
      have hlt' : (i : Int) < (l.length : Int) := by omega
      have hone := Aside0.mk (putS_snoc s l on i hlt)
      have hSl := Aside0.mk ((putS_length (l.take i) on s).trans hs.out)
      clear hs
      generalize rd_T31 l (i : Int) = X at *
      obtain ⟨F, M⟩ := X
      generalize putS s (l.take i) on = S0 at *
      by_cases hw : wh F M
      · obtain ⟨f, rfl⟩ := Int.eq_ofNat_of_zero_le hw.1
        obtain ⟨m, rfl⟩ := Int.eq_ofNat_of_zero_le (show 0 ≤ M by have := hw.2.1; omega)
        have hfm : f + m ≤ 64 := by have := hw.2.2; omega
        have Hw : Aside0 (emulsionref1_Whole.f (f : Int) (m : Int) = some true) := ⟨by rw [rwhole_eq, decide_eq_true hw]⟩
        have hone2 : Aside0 (putS s (l.take (i + 1)) on = setN S0 f on m) := ⟨by rw [hone.out]; unfold putOne; rw [if_pos hw]; simp⟩
        clear hw hone
        go_wp2_with fail
        go_loopg [8] m (fun kq v wq => ∃ k : Nat, k + kq = m ∧ v = .int .i64 k ∧ Aside0 (Below w.heap.size w wq) ∧ Aside0 (Blk wq w.heap.size 27 (setArr (setN S0 f on k))) ∧ Aside0 (Blk wq (w.heap.size + 1) 27 (setArr (List.replicate 64 false))) ∧ wq.cell? (ad.add (i * 2)) = some (.int .i64 (f : Int)) ∧ wq.cell? { block := (ad.add (i * 2)).block, off := (ad.add (i * 2)).off + 1 } = some (.int .i64 (m : Int)))
        case atStart => exact ⟨0, by omega, rfl, HB, HX, HZ, x0, x1⟩
        case round =>
          obtain ⟨k, hk, rfl, HB1, HX1, HZ1, y0, y1⟩ := hrel
          go_wp2_with fail
          refine (emulsionref1_Whole.calls (f : Int) (m : Int) true _ Hw.out).mono ?_
          rintro e w1 ⟨rfl, hB⟩
          have HB2 : Aside0 (Below w.heap.size w w1) := ⟨below_step HB1.out hB⟩
          have HX2 := Aside0.mk (HX1.out.keep hB)
          have HZ2 := Aside0.mk (HZ1.out.keep hB)
          replace y0 := keepP hB y0
          replace y1 := keepP hB y1
          clear HB1 HX1 HZ1 hB
          have hf0 : (0 : Int) ≤ (f : Int) + (k : Int) := by omega
          by_cases hkm : k < m
          · have hkm' : (k : Int) < (m : Int) := by omega
            have hf1 : (f : Int) + (k : Int) < 64 := by omega
            have hcell : w1.cell? ⟨w.heap.size, f + k, none⟩ = some (.bool ((setN S0 f on k).getD (f + k) false)) := HX2.out.cell (setArr_get _ _ (by rw [setN_length, hSl.out]; omega))
            have hfroz : w1.frozen? ⟨w.heap.size, f + k, none⟩ = false := HX2.out.frozen _
            obtain ⟨ig, rfl⟩ : ∃ q, gk = q + 1 := ⟨gk - 1, by omega⟩
            go_wp2_with fail
            go_roundg ig
            case measure => omega
            case rel =>
              refine ⟨k + 1, by omega, by go_num, ⟨below_set HB2.out (Nat.le_refl _)⟩, ⟨?_⟩, ⟨HZ2.out.far (by simp) _⟩, ?_, ?_⟩
              · have h := HX2.out.set_ (f + k) (.bool on)
                rwa [setArr_set] at h
              · exact (World.cell?_setCell_other _ _ _ _ (fun e => by have := congrArg Addr.block e; simp at this; omega)).trans y0
              · exact (World.cell?_setCell_other _ _ _ _ (fun e => by have := congrArg Addr.block e; simp at this; omega)).trans y1
          · have hkm' : ¬ (k : Int) < (m : Int) := by omega
            obtain rfl : k = m := by omega
            go_wp2_with fail
            go_roundg og
            case measure => omega
            case rel => exact ⟨i + 1, by omega, by go_num, HB2, ⟨by rw [hone2.out]; exact HX2.out⟩, HZ2⟩
      · have Hw : Aside0 (emulsionref1_Whole.f F M = some false) := ⟨by rw [rwhole_eq, decide_eq_false hw]⟩
        have hone2 : Aside0 (putS s (l.take (i + 1)) on = S0) := ⟨by rw [hone.out]; unfold putOne; rw [if_neg hw]⟩
        clear hw hone
        go_wp2_with fail
        go_loopg [8] 0 (fun kq v wq => v = .int .i64 0 ∧ Aside0 (Below w.heap.size w wq) ∧ Aside0 (Blk wq w.heap.size 27 (setArr S0)) ∧ Aside0 (Blk wq (w.heap.size + 1) 27 (setArr (List.replicate 64 false))) ∧ wq.cell? (ad.add (i * 2)) = some (.int .i64 F) ∧ wq.cell? { block := (ad.add (i * 2)).block, off := (ad.add (i * 2)).off + 1 } = some (.int .i64 M))
        case atStart => exact ⟨rfl, HB, HX, HZ, x0, x1⟩
        case round =>
          obtain ⟨rfl, HB1, HX1, HZ1, y0, y1⟩ := hrel
          go_wp2_with fail
          refine (emulsionref1_Whole.calls F M false _ Hw.out).mono ?_
          rintro e w1 ⟨rfl, hB⟩
          have HB2 : Aside0 (Below w.heap.size w w1) := ⟨below_step HB1.out hB⟩
          have HX2 := Aside0.mk (HX1.out.keep hB)
          have HZ2 := Aside0.mk (HZ1.out.keep hB)
          clear HB1 HX1 HZ1 hB
          go_wp2_with fail
          go_roundg og
          case measure => omega
          case rel => exact ⟨i + 1, by omega, by go_num, HB2, ⟨by rw [hone2.out]; exact HX2.out⟩, HZ2⟩
    · have hlt' : ¬ (i : Int) < (l.length : Int) := by omega
      obtain rfl : i = l.length := by omega
      have hF : Aside0 ((putS s l on).length = 64) := ⟨(putS_length l on s).trans hs.out⟩
      rw [List.take_length] at HX
      go_wp2_with (first | (with_reducible refine wpList_load_row rfl 27 (.tmp 3) rfl w.heap.size rfl 27 _ (0, 0) _ HX.out.hd Try.underlying27 rfl (by rw [setArr_size, hF.out]; exact info27) ?_) | (with_reducible refine wpList_store_row rfl 27 (.tmp 6) (.tmp 40) rfl (w.heap.size + 1) (setArr (putS s l on)) rfl rfl 27 (setArr (List.replicate 64 false)) HZ.out.hd (by rw [setArr_size, hF.out]; exact info27) (by rw [setArr_size, setArr_size, hF.out, List.length_replicate]) (setArr_one _) ?_))
      have HZ2 : Blk (wr.setRow (w.heap.size + 1) (setArr (putS s l on))) (w.heap.size + 1) 27 (setArr (putS s l on)) := setRow_heap _ _ _ _ _ _ HZ.out.hd
      exact bodyPost_ret (v := .agg (setArr (putS s l on))) (results_cell_row rfl _ _ (w.heap.size + 1) 27 _ (0, 0) _ rfl HZ2.hd Try.underlying27 rfl (by rw [setArr_size, hF.out]; exact info27)) rfl ⟨rfl, below_setRow HB.out (by omega) _⟩
end Go.Proofs.Ytffemlfdhkndiaa.Hand
