/- Marks from backup to backup (track), walked. -/
import Derived.Test.YtffemlfdhkndiaaDirtR
import Derived.Test.YtffemlfdhkndiaaAx0
namespace Go.Proofs.Ytffemlfdhkndiaa.Hand
open Go.RowKit Go.Proofs.YtffemlfdhkndiaaW.PrintWords Go.Proofs.YtffemlfdhkndiaaW.PrintLast Go.Proofs.YtffemlfdhkndiaaW.PrintMore Go.Proofs.Ytffemlfdhkndiaa.A Go.Proofs.Ytffemlfdhkndiaa.Bits
set_option linter.unusedVariables false
set_option linter.unusedSimpArgs false
attribute [local go_sem] max2_int min2_int max_two min_two max_three min_three max_four min_four
theorem Blk.ne {w : World} {g g' t t' : Nat} {cs cs' : Array Value} (h : Blk w g t cs) (h' : Blk w g' t' cs') (ht : t ≠ t') : g ≠ g' := by
  rintro rfl
  unfold Blk at h h'
  rw [h] at h'
  injection h' with h'
  injection h' with _ h'
  exact ht h'
theorem only_deep {w w1 : World} {B g : Nat} (h : Only w w1 g) (hg : B ≤ g) (hB : B ≤ w.heap.size) : Below B w w1 :=
  ⟨h.os, h.tape, h.output, h.size, fun i hi => h.block i (by omega) (fun e => by injection e; omega)⟩
theorem below_deep {w w1 : World} {B : Nat} (h : Below w.heap.size w w1) (hB : B ≤ w.heap.size) : Below B w w1 :=
  ⟨h.os, h.tape, h.output, h.size, fun i hi => h.block i (by omega)⟩
/-- All marks: the first n. -/
def allX : Nat := 18446744073709551615
theorem allX_bit (k : Nat) (h : k < 64) : allX.testBit k = true := by
  rw [show allX = 2 ^ 64 - 1 by decide, Nat.testBit_two_pow_sub_one]; simpa using h
/-- The blocks that count: all, if marks are lost. -/
def markS (n x : Nat) (l : Bool) : List Bool := bitsS n (if l then allX else x)
theorem marks_all (n x : Nat) (hn : n ≤ 64) : putV (putV [] [⟨0, (n : Int)⟩]) (spansOf (bitsS n x)) = spansOf (bitsS n allX) := by
  obtain ⟨a, b⟩ := putV_nil [⟨0, (n : Int)⟩]
  obtain ⟨c, d⟩ := putV_spec (spansOf (bitsS n x)) _ a
  refine c.ext (spansOf_tidy _) (fun j => ?_)
  rw [d, b, wmem_tidy (spansOf_tidy _), bits_mem, bits_mem]
  unfold wmem inSp wh
  simp only [List.mem_singleton, exists_eq_left]
  constructor
  · rintro (⟨h1, h2⟩ | ⟨h1, h2, h3, h4⟩)
    · exact ⟨by omega, by omega, by omega, allX_bit _ (by omega)⟩
    · exact ⟨h1, h2, h3, allX_bit _ (by omega)⟩
  · rintro ⟨h1, h2, h3, h4⟩
    exact .inl ⟨by omega, by omega⟩
theorem marks_some (n x : Nat) : putV [] (spansOf (bitsS n x)) = spansOf (bitsS n x) := by
  obtain ⟨a, b⟩ := putV_nil (spansOf (bitsS n x))
  exact a.ext (spansOf_tidy _) (fun j => by rw [b, wmem_tidy (spansOf_tidy _)])
set_option maxRecDepth 100000 in
set_option maxHeartbeats 800000 in
theorem marks_runs (g n x : Nat) (l : Bool) (hn : n ≤ 64) (hx : x < 18446744073709551616) (w : World) (hd : DirtAt w g n x) :
    Calls Try.prog 88 #[.agg #[ptr g, .bool l]] w fun e w' => ∃ gr, e = .returned (ptrR gr) ∧ w.heap.size ≤ gr ∧ RunsAt w' w.heap.size gr (spansOf (markS n x l)) ∧ Below w.heap.size w w' := by
  have HD := Aside0.mk hd
  clear hd
  go_enter Try.func88, Try.ntmps88
  go_wp2_with fail
  refine (runs_of [] none 0 _ (C_none _)).mono ?_
  rintro e w1 ⟨rfl, hr, hB⟩
  have HB1 := Aside0.mk (below_step (below_alloc (Below.refl _ _) _) hB)
  have HR1 : Aside0 (RunsAt w1 w.heap.size (w.heap.size + 1) []) := ⟨by have := hr.lower (base' := w.heap.size) (by simp); have h2 : RunsAt w1 w.heap.size (w.heap.size + 1) (putV [] []) := (by simpa using this); exact h2⟩
  have HM1 : Aside0 (Blk w1 w.heap.size 107 #[ptr g, .bool l]) := ⟨(Blk.new w _ _).keep hB⟩
  rw [show (w.alloc (.cells #[ptr g, .bool l] 107)).heap.size = w.heap.size + 1 by simp]
  have c0 := HM1.out.cell (i := 0) rfl
  have c1 := HM1.out.cell (i := 1) rfl
  clear hr hB
  cases l
  · go_wp2_with fail
    refine (dirt_runs g n x hn hx _ (HD.out.keep HB1.out)).mono ?_
    rintro e w2 ⟨rfl, hr, hB⟩
    have HB2 := Aside0.mk (below_step HB1.out hB)
    have HR2 := Aside0.mk (HR1.out.keep hB)
    have HS2 := Aside0.mk hr
    clear hr hB c0 c1 HR1
    generalize w1.heap.size = g2 at *
    go_wp2_with fail
    refine (runs_all g2 g2 _ (by have := (spansOf_tidy (bitsS n x)).length (by decide); omega) w2 HS2.out).mono ?_
    rintro e w3 ⟨v, rfl, ho, hB⟩
    obtain ⟨A, c, rfl, _, hC, _⟩ := ho.reads
    have HB3 := Aside0.mk (below_step HB2.out hB)
    have HR3 := Aside0.mk (HR2.out.keep hB)
    have HC3 := Aside0.mk hC
    have Off3 := Aside0.mk (off_row ho HR2.out.lt)
    clear hB ho hC
    go_wp2_with fail
    refine (runs_put w.heap.size (w.heap.size + 1) [] _ A c w3 trivial HR3.out HB3.out.size HC3.out Off3.out).mono ?_
    rintro e w4 ⟨rfl, hr, ho⟩
    rw [marks_some] at hr
    have HB4 := Aside0.mk (below_only HB3.out ho (by omega))
    have HR4 := Aside0.mk hr
    clear hr ho
    generalize sumN (putV [] (spansOf (bitsS n x))) - sumN [] = z at *
    go_wp2_with fail
    go_ret
    exact ⟨_, rfl, by omega, HR4.out, HB4.out⟩
  · go_wp2_with fail
    refine (dirt_blocks g n x _ (HD.out.keep HB1.out)).mono ?_
    rintro e w2 ⟨rfl, hB⟩
    have HB2 := Aside0.mk (below_step HB1.out hB)
    have HR2 := Aside0.mk (HR1.out.keep hB)
    have HM2 := Aside0.mk (HM1.out.keep hB)
    clear hB HB1 HR1 HM1 c0 c1
    go_wp2_with fail
    refine (runs_put w.heap.size (w.heap.size + 1) [] [⟨0, (n : Int)⟩] (some ⟨w2.heap.size, 0, none⟩) 1 _ trivial (HR2.out.keep (below_alloc (Below.refl _ _) _)) (below_size (below_alloc HB2.out _)) (C_lit w2 [⟨0, (n : Int)⟩] (by simp) #[.int .i64 0, .int .i64 (n : Int)] rfl) (fun _ a ha => by injection ha with ha; subst ha; have := HR2.out.lt; simp; omega)).mono ?_
    rintro e w3 ⟨rfl, hr, ho⟩
    have HB3 := Aside0.mk (below_only (below_alloc HB2.out _) ho (by omega))
    have HR3 := Aside0.mk hr
    have HM3 := Aside0.mk ((HM2.out.alloc (.cells #[.int .i64 0, .int .i64 (n : Int)] 31)).only ho (by omega))
    have c0 := HM3.out.cell (i := 0) rfl
    clear hr ho HB2 HR2 HM2
    generalize sumN (putV [] [⟨0, (n : Int)⟩]) - sumN [] = z at *
    go_wp2_with fail
    refine (dirt_runs g n x hn hx _ (HD.out.keep HB3.out)).mono ?_
    rintro e w4 ⟨rfl, hr, hB⟩
    have HB4 := Aside0.mk (below_step HB3.out hB)
    have HR4 := Aside0.mk (HR3.out.keep hB)
    have HS4 := Aside0.mk hr
    clear hr hB c0
    generalize w3.heap.size = g2 at *
    go_wp2_with fail
    refine (runs_all g2 g2 _ (by have := (spansOf_tidy (bitsS n x)).length (by decide); omega) w4 HS4.out).mono ?_
    rintro e w5 ⟨v, rfl, ho, hB⟩
    obtain ⟨A, c, rfl, _, hC, _⟩ := ho.reads
    have HB5 := Aside0.mk (below_step HB4.out hB)
    have HR5 := Aside0.mk (HR4.out.keep hB)
    have HC5 := Aside0.mk hC
    have Off5 := Aside0.mk (off_row ho HR4.out.lt)
    have TT := Aside0.mk (putV_nil [⟨0, (n : Int)⟩]).1
    clear hB ho hC
    go_wp2_with fail
    refine (runs_put w.heap.size (w.heap.size + 1) _ _ A c w5 TT.out HR5.out HB5.out.size HC5.out Off5.out).mono ?_
    rintro e w6 ⟨rfl, hr, ho⟩
    rw [marks_all n x hn] at hr
    have HB6 := Aside0.mk (below_only HB5.out ho (by omega))
    have HR6 := Aside0.mk hr
    clear hr ho
    generalize sumN (putV (putV [] [⟨0, (n : Int)⟩]) (spansOf (bitsS n x))) - sumN (putV [] [⟨0, (n : Int)⟩]) = z at *
    go_wp2_with fail
    go_ret
    exact ⟨_, rfl, by omega, HR6.out, HB6.out⟩
/-- A Track of n blocks: the marks of now, the frozen ones, whether they are lost, whether a backup goes on. -/
def TrackAt (w : World) (base gt n x1 x2 : Nat) (l1 l2 b : Bool) : Prop := ∃ g1 g2, base ≤ gt ∧ base ≤ g1 ∧ base ≤ g2 ∧ g1 ≠ g2 ∧ Blk w gt 109 #[ptr g1, .bool l1, ptr g2, .bool l2, .bool b] ∧ DirtAt w g1 n x1 ∧ DirtAt w g2 n x2
section
variable {w w1 : World} {base gt n x1 x2 : Nat} {l1 l2 b : Bool}
theorem TrackAt.keep (h : TrackAt w base gt n x1 x2 l1 l2 b) (hB : Below w.heap.size w w1) : TrackAt w1 base gt n x1 x2 l1 l2 b := by
  obtain ⟨g1, g2, h1, h2, h3, h4, ht, d1, d2⟩ := h
  exact ⟨g1, g2, h1, h2, h3, h4, ht.keep hB, d1.keep hB, d2.keep hB⟩
theorem TrackAt.onlyR {g' base' : Nat} {l' : List S31} (h : TrackAt w base gt n x1 x2 l1 l2 b) (ho : Only w w1 g') (hb : RunsAt w base' g' l') : TrackAt w1 base gt n x1 x2 l1 l2 b := by
  obtain ⟨g1, g2, h1, h2, h3, h4, ht, d1, d2⟩ := h
  obtain ⟨v, hk, _⟩ := hb
  exact ⟨g1, g2, h1, h2, h3, h4, ht.only ho (ht.ne hk (by decide)), d1.only ho (d1.ne hk (by decide)), d2.only ho (d2.ne hk (by decide))⟩
theorem TrackAt.onlyB {g' t : Nat} {cs : Array Value} (h : TrackAt w base gt n x1 x2 l1 l2 b) (ho : Only w w1 g') (hb : Blk w g' t cs) (t1 : 109 ≠ t) (t2 : 80 ≠ t) : TrackAt w1 base gt n x1 x2 l1 l2 b := by
  obtain ⟨g1, g2, h1, h2, h3, h4, ht, d1, d2⟩ := h
  exact ⟨g1, g2, h1, h2, h3, h4, ht.only ho (ht.ne hb t1), d1.only ho (d1.ne hb t2), d2.only ho (d2.ne hb t2)⟩
theorem TrackAt.le (h : TrackAt w base gt n x1 x2 l1 l2 b) : base ≤ w.heap.size := by
  obtain ⟨g1, g2, h1, h2, h3, h4, ht, d1, d2⟩ := h
  have := ht.lt
  omega
end
set_option maxRecDepth 100000 in
theorem track_none (base gt n x1 x2 : Nat) (l1 l2 b : Bool) (w : World) (h : TrackAt w base gt n x1 x2 l1 l2 b) :
    Calls Try.prog 87 #[ptr gt] w fun e w' => e = .returned (.bool false) ∧ Below w.heap.size w w' := by
  obtain ⟨g1, g2, h1, h2, h3, h4, ht, d1, d2⟩ := h
  have c0 := ht.cell (i := 0) rfl
  clear ht d1 d2
  go_enter Try.func87, Try.ntmps87
  go_wp2_with fail
  go_ret
  exact ⟨rfl, Below.refl _ _⟩
set_option maxRecDepth 100000 in
theorem track_none_nil (w : World) :
    Calls Try.prog 87 #[.pointer none] w fun e w' => e = .returned (.bool true) ∧ Below w.heap.size w w' := by
  go_enter Try.func87, Try.ntmps87
  go_wp2_with fail
  go_ret
  exact ⟨rfl, Below.refl _ _⟩
set_option maxRecDepth 100000 in
theorem track_new (n : Nat) (h1 : 1 ≤ n) (h2 : n ≤ 64) (w : World) :
    Calls Try.prog 36 #[.int .i64 (n : Int)] w fun e w' => ∃ gt, e = .returned (.tuple #[ptr gt, .int .i64 0]) ∧ TrackAt w' w.heap.size gt n 0 0 true false false ∧ Below w.heap.size w w' := by
  have i1 : (1 : Int) ≤ (n : Int) := by omega
  have i2 : (n : Int) ≤ 64 := by omega
  go_enter Try.func36, Try.ntmps36
  go_wp2_with fail
  refine (dirt_new (n : Int) _).mono ?_
  rintro e w1 ⟨rfl, hd, hB⟩
  rw [show (min (max (n : Int) 0) 64).toNat = n by omega] at hd
  have HB1 := Aside0.mk hB
  have HD1 := Aside0.mk hd
  clear hB hd
  go_wp2_with fail
  refine (dirt_new (n : Int) _).mono ?_
  rintro e w2 ⟨rfl, hd, hB⟩
  rw [show (min (max (n : Int) 0) 64).toNat = n by omega] at hd
  have HB2 := Aside0.mk (below_step HB1.out hB)
  have HD2 := Aside0.mk hd
  have HD3 := Aside0.mk (HD1.out.keep hB)
  have Hg : Aside0 (w.heap.size < w1.heap.size) := ⟨HD1.out.lt⟩
  clear hB hd
  go_wp2_with fail
  go_ret2
  exact ⟨_, rfl, ⟨_, _, HB2.out.size, Nat.le_refl _, HB1.out.size, by have := Hg.out; omega, Blk.new _ _ _, HD3.out.alloc _, HD2.out.alloc _⟩, below_alloc HB2.out _⟩
set_option maxRecDepth 100000 in
theorem track_new_bad (n : Int) (h : n < 1 ∨ 64 < n) (w : World) :
    Calls Try.prog 36 #[.int .i64 n] w fun e w' => e = .returned (.tuple #[.pointer none, .int .i64 1]) ∧ Below w.heap.size w w' := by
  by_cases h1 : n < 1
  · clear h
    go_enter Try.func36, Try.ntmps36
    go_wp2_with fail
    go_ret2
    exact ⟨rfl, Below.refl _ _⟩
  · have h2 : 64 < n := by omega
    clear h
    go_enter Try.func36, Try.ntmps36
    go_wp2_with fail
    go_ret2
    exact ⟨rfl, Below.refl _ _⟩
end Go.Proofs.Ytffemlfdhkndiaa.Hand
