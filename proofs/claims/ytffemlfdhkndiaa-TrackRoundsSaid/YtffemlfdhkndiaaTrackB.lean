/- Marks from backup to backup (track), walked: what turns them. -/
import Derived.Test.YtffemlfdhkndiaaTrack
import Derived.Test.YtffemlfdhkndiaaAx0
namespace Go.Proofs.Ytffemlfdhkndiaa.Hand
open Go.RowKit Go.Proofs.YtffemlfdhkndiaaW.PrintWords Go.Proofs.YtffemlfdhkndiaaW.PrintLast Go.Proofs.YtffemlfdhkndiaaW.PrintMore Go.Proofs.Ytffemlfdhkndiaa.A Go.Proofs.Ytffemlfdhkndiaa.Bits
set_option linter.unusedVariables false
set_option linter.unusedSimpArgs false
attribute [local go_sem] max2_int min2_int max_two min_two max_three min_three max_four min_four
/-- A track's own blocks, and new ones, have turned. -/
def Deep (B : Nat) (w w1 : World) : Prop := Below B w w1 ∧ ∀ g t cs, t ≠ 109 → t ≠ 80 → Blk w g t cs → Blk w1 g t cs
theorem deep_step {B : Nat} {w W W2 : World} (h : Below B w W) (hB : B ≤ w.heap.size) (k : Below W.heap.size W W2) : Below B w W2 := below_then h (Nat.le_trans hB h.size) k
section
variable {B : Nat} {w W W2 : World}
theorem Deep.of (h : Below w.heap.size w W) (hB : B ≤ w.heap.size) : Deep B w W := ⟨below_deep h hB, fun g t cs _ _ hb => hb.keep h⟩
theorem Deep.trans (h : Deep B w W) (k : Deep B W W2) : Deep B w W2 := ⟨h.1.trans k.1, fun g t cs a b c => k.2 g t cs a b (h.2 g t cs a b c)⟩
theorem Deep.step (h : Deep B w W) (hB : B ≤ w.heap.size) (k : Below W.heap.size W W2) : Deep B w W2 := ⟨deep_step h.1 hB k, fun g t cs a b c => (h.2 g t cs a b c).keep k⟩
theorem Deep.set {g t : Nat} {cs : Array Value} (h : Deep B w W) (hg : B ≤ g) (hb : Blk W g t cs) (ht : t = 109 ∨ t = 80) (j : Nat) (u : Value) : Deep B w (W.setCell ⟨g, j, none⟩ u) :=
  ⟨h.1.setCell hg u, fun g' t' cs' a b c => (h.2 g' t' cs' a b c).far (p := ⟨g, j, none⟩) ((h.2 g' t' cs' a b c).ne hb (by rcases ht with rfl | rfl <;> assumption)) u⟩
theorem Deep.only {g t : Nat} {cs : Array Value} (h : Deep B w W) (hB : B ≤ w.heap.size) (hg : B ≤ g) (hb : Blk W g t cs) (ht : t = 109 ∨ t = 80) (ho : Only W W2 g) : Deep B w W2 :=
  ⟨h.1.trans (only_deep ho hg (Nat.le_trans hB h.1.size)), fun g' t' cs' a b c => (h.2 g' t' cs' a b c).only ho ((h.2 g' t' cs' a b c).ne hb (by rcases ht with rfl | rfl <;> assumption))⟩
theorem Blk.deep {g t : Nat} {cs : Array Value} (h : Blk w g t cs) (hd : Deep B w W) (h1 : t ≠ 109) (h2 : t ≠ 80) : Blk W g t cs := hd.2 g t cs h1 h2 h
theorem RunsAt.deep {base g : Nat} {l : List S31} (h : RunsAt w base g l) (hd : Deep B w W) : RunsAt W base g l := by
  obtain ⟨v, hk, ho⟩ := h
  refine ⟨v, hk.deep hd (by decide) (by decide), own_move ho (fun k hv => ?_)⟩
  obtain ⟨cells, hc⟩ := own_typed ho k hv
  have hb : Blk w k 31 cells := hc
  exact (hb.deep hd (by decide) (by decide)).trans hc.symm
end
set_option maxRecDepth 100000 in
set_option maxHeartbeats 800000 in
theorem track_lost (base gt n x1 x2 : Nat) (l1 l2 b : Bool) (w : World) (h : TrackAt w base gt n x1 x2 l1 l2 b) :
    Calls Try.prog 40 #[ptr gt] w fun e w' => e = .returned (.bool l1) ∧ Below w.heap.size w w' := by
  have HL := Aside0.mk h.le
  have HN := Aside0.mk (track_none base gt n x1 x2 l1 l2 b w h)
  obtain ⟨g1, g2, h1, h2, h3, h4, ht, d1, d2⟩ := h
  have HT := Aside0.mk ht
  have HD1 := Aside0.mk d1
  have HD2 := Aside0.mk d2
  have N1 : Aside0 (g1 ≠ gt) := ⟨d1.ne ht (by decide)⟩
  have N2 : Aside0 (g2 ≠ gt) := ⟨d2.ne ht (by decide)⟩
  have HH : Aside0 (base ≤ gt ∧ base ≤ g1 ∧ base ≤ g2 ∧ g1 ≠ g2) := ⟨⟨h1, h2, h3, h4⟩⟩
  clear ht d1 d2 h1 h2 h3 h4
  go_enter Try.func40, Try.ntmps40
  go_wp2_with fail
  refine HN.out.mono ?_
  rintro e w1 ⟨rfl, hB⟩
  have HB1 := Aside0.mk hB
  have HT1 := Aside0.mk (HT.out.keep hB)
  have E1 := Aside0.mk (HD1.out.keep hB)
  have E2 := Aside0.mk (HD2.out.keep hB)
  clear hB HN HT HD1 HD2
  have c1 := HT1.out.cell (i := 1) rfl
  go_wp2_with fail
  go_ret
  exact ⟨rfl, HB1.out⟩
set_option maxRecDepth 100000 in
set_option maxHeartbeats 800000 in
theorem track_busy (base gt n x1 x2 : Nat) (l1 l2 b : Bool) (w : World) (h : TrackAt w base gt n x1 x2 l1 l2 b) :
    Calls Try.prog 44 #[ptr gt] w fun e w' => e = .returned (.bool b) ∧ Below w.heap.size w w' := by
  have HL := Aside0.mk h.le
  have HN := Aside0.mk (track_none base gt n x1 x2 l1 l2 b w h)
  obtain ⟨g1, g2, h1, h2, h3, h4, ht, d1, d2⟩ := h
  have HT := Aside0.mk ht
  have HD1 := Aside0.mk d1
  have HD2 := Aside0.mk d2
  have N1 : Aside0 (g1 ≠ gt) := ⟨d1.ne ht (by decide)⟩
  have N2 : Aside0 (g2 ≠ gt) := ⟨d2.ne ht (by decide)⟩
  have HH : Aside0 (base ≤ gt ∧ base ≤ g1 ∧ base ≤ g2 ∧ g1 ≠ g2) := ⟨⟨h1, h2, h3, h4⟩⟩
  clear ht d1 d2 h1 h2 h3 h4
  have c4 := HT.out.cell (i := 4) rfl
  go_enter Try.func44, Try.ntmps44
  go_wp2_with fail
  go_ret
  exact ⟨rfl, Below.refl _ _⟩
set_option maxRecDepth 100000 in
set_option maxHeartbeats 800000 in
theorem track_lose (base gt n x1 x2 : Nat) (l1 l2 b : Bool) (w : World) (h : TrackAt w base gt n x1 x2 l1 l2 b) :
    Calls Try.prog 46 #[ptr gt] w fun e w' => e = .returned (.tuple #[]) ∧ TrackAt w' base gt n x1 x2 true l2 b ∧ Deep base w w' := by
  have HL := Aside0.mk h.le
  have HN := Aside0.mk (track_none base gt n x1 x2 l1 l2 b w h)
  obtain ⟨g1, g2, h1, h2, h3, h4, ht, d1, d2⟩ := h
  have HT := Aside0.mk ht
  have HD1 := Aside0.mk d1
  have HD2 := Aside0.mk d2
  have N1 : Aside0 (g1 ≠ gt) := ⟨d1.ne ht (by decide)⟩
  have N2 : Aside0 (g2 ≠ gt) := ⟨d2.ne ht (by decide)⟩
  have HH : Aside0 (base ≤ gt ∧ base ≤ g1 ∧ base ≤ g2 ∧ g1 ≠ g2) := ⟨⟨h1, h2, h3, h4⟩⟩
  clear ht d1 d2 h1 h2 h3 h4
  go_enter Try.func46, Try.ntmps46
  go_wp2_with fail
  refine HN.out.mono ?_
  rintro e w1 ⟨rfl, hB⟩
  have HB1 := Aside0.mk hB
  have HT1 := Aside0.mk (HT.out.keep hB)
  have E1 := Aside0.mk (HD1.out.keep hB)
  have E2 := Aside0.mk (HD2.out.keep hB)
  clear hB HN HT HD1 HD2
  have c1 := HT1.out.cell (i := 1) rfl
  have f1 := HT1.out.frozen 1
  go_wp2_with fail
  go_end0
  obtain ⟨h1, h2, h3, h4⟩ := HH.out
  exact ⟨rfl, ⟨g1, g2, h1, h2, h3, h4, HT1.out.set_ 1 _, E1.out.far N1.out _, E2.out.far N2.out _⟩, (Deep.of HB1.out HL.out).set h1 HT1.out (.inl rfl) 1 _⟩
set_option maxRecDepth 100000 in
set_option maxHeartbeats 800000 in
theorem track_now (base gt n x1 x2 : Nat) (l1 l2 b : Bool) (w : World) (h : TrackAt w base gt n x1 x2 l1 l2 b) (hn : n ≤ 64) (hx : x1 < 18446744073709551616) :
    Calls Try.prog 42 #[ptr gt] w fun e w' => ∃ gr, e = .returned (ptrR gr) ∧ w.heap.size ≤ gr ∧ RunsAt w' w.heap.size gr (spansOf (markS n x1 l1)) ∧ Below w.heap.size w w' := by
  have HL := Aside0.mk h.le
  have HN := Aside0.mk (track_none base gt n x1 x2 l1 l2 b w h)
  obtain ⟨g1, g2, h1, h2, h3, h4, ht, d1, d2⟩ := h
  have HT := Aside0.mk ht
  have HD1 := Aside0.mk d1
  have HD2 := Aside0.mk d2
  have N1 : Aside0 (g1 ≠ gt) := ⟨d1.ne ht (by decide)⟩
  have N2 : Aside0 (g2 ≠ gt) := ⟨d2.ne ht (by decide)⟩
  have HH : Aside0 (base ≤ gt ∧ base ≤ g1 ∧ base ≤ g2 ∧ g1 ≠ g2) := ⟨⟨h1, h2, h3, h4⟩⟩
  clear ht d1 d2 h1 h2 h3 h4
  go_enter Try.func42, Try.ntmps42
  go_wp2_with fail
  refine HN.out.mono ?_
  rintro e w1 ⟨rfl, hB⟩
  have HB1 := Aside0.mk hB
  have HT1 := Aside0.mk (HT.out.keep hB)
  have E1 := Aside0.mk (HD1.out.keep hB)
  have E2 := Aside0.mk (HD2.out.keep hB)
  clear hB HN HT HD1 HD2
  have c0 := HT1.out.cell (i := 0) rfl
  have c1 := HT1.out.cell (i := 1) rfl
  go_wp2_with fail
  refine (marks_runs g1 n x1 l1 hn hx _ E1.out).mono ?_
  rintro e w2 ⟨gr, rfl, hg, hr, hB⟩
  have HB2 := Aside0.mk (below_step HB1.out hB)
  have HR := Aside0.mk (hr.lower HB1.out.size)
  have HG : Aside0 (w.heap.size ≤ gr) := ⟨Nat.le_trans HB1.out.size hg⟩
  clear hB hr hg
  go_wp2_with fail
  go_ret
  exact ⟨_, rfl, HG.out, HR.out, HB2.out⟩
set_option maxRecDepth 100000 in
set_option maxHeartbeats 800000 in
theorem track_frozen (base gt n x1 x2 : Nat) (l1 l2 b : Bool) (w : World) (h : TrackAt w base gt n x1 x2 l1 l2 b) (hn : n ≤ 64) (hx : x2 < 18446744073709551616) :
    Calls Try.prog 38 #[ptr gt] w fun e w' => ∃ gr, e = .returned (ptrR gr) ∧ w.heap.size ≤ gr ∧ RunsAt w' w.heap.size gr (if b then spansOf (markS n x2 l2) else []) ∧ Below w.heap.size w w' := by
  have HL := Aside0.mk h.le
  have HN := Aside0.mk (track_none base gt n x1 x2 l1 l2 b w h)
  obtain ⟨g1, g2, h1, h2, h3, h4, ht, d1, d2⟩ := h
  have HT := Aside0.mk ht
  have HD1 := Aside0.mk d1
  have HD2 := Aside0.mk d2
  have N1 : Aside0 (g1 ≠ gt) := ⟨d1.ne ht (by decide)⟩
  have N2 : Aside0 (g2 ≠ gt) := ⟨d2.ne ht (by decide)⟩
  have HH : Aside0 (base ≤ gt ∧ base ≤ g1 ∧ base ≤ g2 ∧ g1 ≠ g2) := ⟨⟨h1, h2, h3, h4⟩⟩
  clear ht d1 d2 h1 h2 h3 h4
  cases b
  · skip
    go_enter Try.func38, Try.ntmps38
    go_wp2_with fail
    refine HN.out.mono ?_
    rintro e w1 ⟨rfl, hB⟩
    have HB1 := Aside0.mk hB
    have HT1 := Aside0.mk (HT.out.keep hB)
    have E1 := Aside0.mk (HD1.out.keep hB)
    have E2 := Aside0.mk (HD2.out.keep hB)
    clear hB HN HT HD1 HD2
    have c4 := HT1.out.cell (i := 4) rfl
    go_wp2_with fail
    refine (runs_of [] none 0 _ (C_none _)).mono ?_
    rintro e w2 ⟨rfl, hr, hB⟩
    have HB2 := Aside0.mk (below_step HB1.out hB)
    have HR := Aside0.mk (hr.lower HB1.out.size)
    clear hB hr
    go_wp2_with fail
    go_ret
    exact ⟨_, rfl, HB1.out.size, HR.out, HB2.out⟩
  · skip
    go_enter Try.func38, Try.ntmps38
    go_wp2_with fail
    refine HN.out.mono ?_
    rintro e w1 ⟨rfl, hB⟩
    have HB1 := Aside0.mk hB
    have HT1 := Aside0.mk (HT.out.keep hB)
    have E1 := Aside0.mk (HD1.out.keep hB)
    have E2 := Aside0.mk (HD2.out.keep hB)
    clear hB HN HT HD1 HD2
    have c2 := HT1.out.cell (i := 2) rfl
    have c3 := HT1.out.cell (i := 3) rfl
    have c4 := HT1.out.cell (i := 4) rfl
    go_wp2_with fail
    refine (marks_runs g2 n x2 l2 hn hx _ E2.out).mono ?_
    rintro e w2 ⟨gr, rfl, hg, hr, hB⟩
    have HB2 := Aside0.mk (below_step HB1.out hB)
    have HR := Aside0.mk (hr.lower HB1.out.size)
    have HG : Aside0 (w.heap.size ≤ gr) := ⟨Nat.le_trans HB1.out.size hg⟩
    clear hB hr hg
    go_wp2_with fail
    go_ret
    exact ⟨_, rfl, HG.out, HR.out, HB2.out⟩
set_option maxRecDepth 100000 in
set_option maxHeartbeats 800000 in
theorem track_idle (base gt n x1 x2 : Nat) (l1 l2 b : Bool) (w : World) (h : TrackAt w base gt n x1 x2 l1 l2 b) :
    Calls Try.prog 89 #[ptr gt] w fun e w' => e = .returned (.int .i64 (if b then 0 else 4)) ∧ Below w.heap.size w w' := by
  have HL := Aside0.mk h.le
  have HN := Aside0.mk (track_none base gt n x1 x2 l1 l2 b w h)
  obtain ⟨g1, g2, h1, h2, h3, h4, ht, d1, d2⟩ := h
  have HT := Aside0.mk ht
  have HD1 := Aside0.mk d1
  have HD2 := Aside0.mk d2
  have N1 : Aside0 (g1 ≠ gt) := ⟨d1.ne ht (by decide)⟩
  have N2 : Aside0 (g2 ≠ gt) := ⟨d2.ne ht (by decide)⟩
  have HH : Aside0 (base ≤ gt ∧ base ≤ g1 ∧ base ≤ g2 ∧ g1 ≠ g2) := ⟨⟨h1, h2, h3, h4⟩⟩
  clear ht d1 d2 h1 h2 h3 h4
  go_enter Try.func89, Try.ntmps89
  go_wp2_with fail
  refine HN.out.mono ?_
  rintro e w1 ⟨rfl, hB⟩
  have HB1 := Aside0.mk hB
  have HT1 := Aside0.mk (HT.out.keep hB)
  have E1 := Aside0.mk (HD1.out.keep hB)
  have E2 := Aside0.mk (HD2.out.keep hB)
  clear hB HN HT HD1 HD2
  have c4 := HT1.out.cell (i := 4) rfl
  cases b
  · go_wp2_with fail
    go_ret
    exact ⟨rfl, HB1.out⟩
  · go_wp2_with fail
    go_ret
    exact ⟨rfl, HB1.out⟩
set_option maxRecDepth 100000 in
set_option maxHeartbeats 800000 in
theorem track_mark (base gt n x1 x2 : Nat) (l1 l2 b : Bool) (w : World) (h : TrackAt w base gt n x1 x2 l1 l2 b) (F M : Int) (hn : n ≤ 64) (hx : x1 < 18446744073709551616) :
    Calls Try.prog 41 #[ptr gt, .agg #[.int .i64 F, .int .i64 M]] w fun e w' => e = .returned (.int .i64 ((cnt (minus (markV n F M) x1) : Nat) : Int)) ∧ TrackAt w' base gt n (x1 ||| markV n F M) x2 l1 l2 b ∧ Deep base w w' := by
  have HL := Aside0.mk h.le
  have HN := Aside0.mk ((fun W (hB : Below w.heap.size w W) => track_none base gt n x1 x2 l1 l2 b W (h.keep hB)))
  obtain ⟨g1, g2, h1, h2, h3, h4, ht, d1, d2⟩ := h
  have HT := Aside0.mk ht
  have HD1 := Aside0.mk d1
  have HD2 := Aside0.mk d2
  have N1 : Aside0 (g1 ≠ gt) := ⟨d1.ne ht (by decide)⟩
  have N2 : Aside0 (g2 ≠ gt) := ⟨d2.ne ht (by decide)⟩
  have HH : Aside0 (base ≤ gt ∧ base ≤ g1 ∧ base ≤ g2 ∧ g1 ≠ g2) := ⟨⟨h1, h2, h3, h4⟩⟩
  clear ht d1 d2 h1 h2 h3 h4
  go_enter Try.func41, Try.ntmps41
  go_wp2_with fail
  refine (HN.out _ (below_alloc (Below.refl _ _) _)).mono ?_
  rintro e w1 ⟨rfl, hB⟩
  have HB1 := Aside0.mk (below_step (below_alloc (Below.refl _ _) _) hB)
  have HX1 : Aside0 (Blk w1 w.heap.size 31 #[.int .i64 F, .int .i64 M]) := ⟨(Blk.new w _ _).keep hB⟩
  have HT1 := Aside0.mk ((HT.out.alloc _).keep hB)
  have E1 := Aside0.mk ((HD1.out.alloc _).keep hB)
  have E2 := Aside0.mk ((HD2.out.alloc _).keep hB)
  have c0 := HT1.out.cell (i := 0) rfl
  obtain ⟨gb, hgb⟩ : ∃ n, n = w.heap.size := ⟨_, rfl⟩
  rw [← hgb] at HX1
  rw [← hgb]
  have b0 := HX1.out.cell (i := 0) rfl
  have b1 := HX1.out.cell (i := 1) rfl
  clear hB HN HT HD1 HD2 hgb HX1
  go_wp2_with fail
  refine start_ (n := 8) (S := fun w' => w'.cell? ⟨gt, 0, none⟩ = some (ptr g1) ∧ w'.cell? ⟨gb, 0, none⟩ = some (.int .i64 F) ∧ w'.cell? ⟨gb, 1, none⟩ = some (.int .i64 M) ∧ Below w.heap.size w w' ∧ DirtAt w' g1 n x1 ∧ Blk w' gt 109 #[ptr g1, .bool l1, ptr g2, .bool l2, .bool b] ∧ DirtAt w' g2 n x2) (ds := [6]) #[false, false, false, false, false, false, false, false] (by kernel_rfl) rfl rfl ⟨c0, b0, b1, (below_drew1 HB1.out), (Blk.drew E1.out), (Blk.drew HT1.out), (Blk.drew E2.out)⟩ (fun hHeld => ?_)
  refine pure_ (i := 0) (N := some 7) (v := ?_) (a' := ?_) #[true, false, false, false, false, false, false, false] rfl rfl (by kernel_rfl) (fun _ _ _ h => h) (Or.inl ⟨by rfl, ?_⟩) ?_ ?_
  rotate_left
  · intro w'
    go_simp
    with_reducible rfl
  rotate_left
  · simp only [Act.put, List.setIfInBounds_toArray, List.set_cons_zero, List.set_cons_succ, i64_w, i32_w]
    rfl
  refine pure_ (i := 1) (N := some 8) (v := ?_) (a' := ?_) #[true, true, false, false, false, false, false, false] rfl rfl (by kernel_rfl) (fun _ _ _ h => h) (Or.inl ⟨by rfl, ?_⟩) ?_ ?_
  rotate_left
  · intro w'
    go_simp
    with_reducible rfl
  rotate_left
  · simp only [Act.put, List.setIfInBounds_toArray, List.set_cons_zero, List.set_cons_succ, i64_w, i32_w]
    rfl
  refine pure_ (i := 2) (N := some 9) (v := ?_) (a' := ?_) #[true, true, true, false, false, false, false, false] rfl rfl (by kernel_rfl) (fun _ _ _ h => h) (Or.inl ⟨by rfl, ?_⟩) ?_ ?_
  rotate_left
  · intro w'
    go_simp
    with_reducible rfl
  rotate_left
  · simp only [Act.put, List.setIfInBounds_toArray, List.set_cons_zero, List.set_cons_succ, i64_w, i32_w]
    rfl
  refine pure_ (i := 3) (N := some 10) (v := ?_) (a' := ?_) #[true, true, true, true, false, false, false, false] rfl rfl (by kernel_rfl) (fun _ _ _ h => h) (Or.inl ⟨by rfl, ?_⟩) ?_ ?_
  rotate_left
  · intro w'
    go_simp
    with_reducible rfl
  rotate_left
  · simp only [Act.put, List.setIfInBounds_toArray, List.set_cons_zero, List.set_cons_succ, i64_w, i32_w]
    rfl
  refine take_ (i := 4) (N := some 11) (v := ?_) (a' := ?_) #[true, true, true, true, true, false, false, false] rfl rfl (by kernel_rfl) (fun _ _ _ h => h) (Or.inl ⟨by rfl, ?_⟩) hHeld ?_ ?_
  rotate_left
  · rintro w' ⟨s0, s1, s2, s3, s4, s5, s6⟩
    go_simp
    with_reducible rfl
  rotate_left
  · simp only [Act.put, List.setIfInBounds_toArray, List.set_cons_zero, List.set_cons_succ, i64_w, i32_w]
    rfl
  refine take_ (i := 5) (N := some 12) (v := ?_) (a' := ?_) #[true, true, true, true, true, true, false, false] rfl rfl (by kernel_rfl) (fun _ _ _ h => h) (Or.inl ⟨by rfl, ?_⟩) hHeld ?_ ?_
  rotate_left
  · rintro w' ⟨s0, s1, s2, s3, s4, s5, s6⟩
    go_simp
    with_reducible rfl
  rotate_left
  · simp only [Act.put, List.setIfInBounds_toArray, List.set_cons_zero, List.set_cons_succ, i64_w, i32_w]
    rfl
  refine last_ (i := 6) (N := some 13) #[true, true, true, true, true, true, true, false] rfl rfl (by kernel_rfl) (by decide) (fun K hK => ?_)
  refine goes_ Try.func16 (by kernel_rfl) rfl #[ptr g1, .agg #[.int .i64 F, .int .i64 M]] (by rfl) rfl rfl (by simp only [List.map_toArray, List.map_cons, List.map_nil]; rfl) ?_
  with_reducible refine (dirt_mark g1 n x1 F M hn hx _ hHeld.2.2.2.2.1).mono ?_
  rintro e w2 ⟨rfl, hd, ho⟩
  refine ⟨_, rfl, ?_⟩
  have hT2 := Blk.only hHeld.2.2.2.2.2.1 ho (Ne.symm N1.out)
  have hD2 := Blk.only hHeld.2.2.2.2.2.2 ho (Ne.symm HH.out.2.2.2)
  have hO3 := (Deep.of hHeld.2.2.2.1 HL.out).only HL.out HH.out.2.1 hHeld.2.2.2.2.1 (.inr rfl) ho
  refine hK.out _ _ ?_
  clear hK K
  refine norm_ (a' := ?_) ?_ ?_
  rotate_left
  · show Act.put _ (some 13) _ = _
    simp only [Act.put, List.setIfInBounds_toArray, List.set_cons_zero, List.set_cons_succ, i64_w, i32_w]
    rfl
  refine pure_ (i := 7) (N := some 4) (v := ?_) (a' := ?_) #[true, true, true, true, true, true, true, true] rfl rfl (by kernel_rfl) (fun _ _ _ h => h) (Or.inl ⟨by rfl, ?_⟩) ?_ ?_
  rotate_left
  · intro w'
    go_simp
    with_reducible rfl
  rotate_left
  · simp only [Act.put, List.setIfInBounds_toArray, List.set_cons_zero, List.set_cons_succ, i64_w, i32_w]
    rfl
  refine done_ (by kernel_rfl) ?_
  have HO3 := Aside0.mk hO3
  have HT2 := Aside0.mk hT2
  have HD2 := Aside0.mk hD2
  have HDn := Aside0.mk hd
  clear hO3 hT2 hD2 hd ho hHeld c0 b0 b1
  generalize hz : ((cnt (minus (markV n F M) x1) : Nat) : Int) = z at *
  go_wp2_with fail
  go_ret
  obtain ⟨h1, h2, h3, h4⟩ := HH.out
  exact ⟨by rw [hz]; rfl, ⟨g1, g2, h1, h2, h3, h4, HT2.out, HDn.out, HD2.out⟩, HO3.out⟩
set_option maxRecDepth 100000 in
set_option maxHeartbeats 800000 in
theorem track_freeze (base gt n x1 x2 : Nat) (l1 l2 b : Bool) (w : World) (h : TrackAt w base gt n x1 x2 l1 l2 b) (hn : n ≤ 64) :
    Calls Try.prog 37 #[ptr gt] w fun e w' => e = .returned (.int .i64 (if b then 3 else 0)) ∧ (if b then TrackAt w' base gt n x1 x2 l1 l2 b else TrackAt w' base gt n 0 x1 false l1 true) ∧ Deep base w w' := by
  have HL := Aside0.mk h.le
  have HN := Aside0.mk (track_none base gt n x1 x2 l1 l2 b w h)
  obtain ⟨g1, g2, h1, h2, h3, h4, ht, d1, d2⟩ := h
  have HT := Aside0.mk ht
  have HD1 := Aside0.mk d1
  have HD2 := Aside0.mk d2
  have N1 : Aside0 (g1 ≠ gt) := ⟨d1.ne ht (by decide)⟩
  have N2 : Aside0 (g2 ≠ gt) := ⟨d2.ne ht (by decide)⟩
  have HH : Aside0 (base ≤ gt ∧ base ≤ g1 ∧ base ≤ g2 ∧ g1 ≠ g2) := ⟨⟨h1, h2, h3, h4⟩⟩
  clear ht d1 d2 h1 h2 h3 h4
  cases b
  · skip
    go_enter Try.func37, Try.ntmps37
    go_wp2_with fail
    refine HN.out.mono ?_
    rintro e w1 ⟨rfl, hB⟩
    have HB1 := Aside0.mk hB
    have HT1 := Aside0.mk (HT.out.keep hB)
    have E1 := Aside0.mk (HD1.out.keep hB)
    have E2 := Aside0.mk (HD2.out.keep hB)
    clear hB HN HT HD1 HD2
    have c0 := HT1.out.cell (i := 0) rfl
    have c1 := HT1.out.cell (i := 1) rfl
    have c2 := HT1.out.cell (i := 2) rfl
    have c3 := HT1.out.cell (i := 3) rfl
    have c4 := HT1.out.cell (i := 4) rfl
    have f0 := HT1.out.frozen 0
    have f1 := HT1.out.frozen 1
    have f2 := HT1.out.frozen 2
    have f3 := HT1.out.frozen 3
    have f4 := HT1.out.frozen 4
    go_wp2_with fail
    refine (dirt_blocks g1 n x1 _ (((E1.out.far N1.out _).far N1.out _).far N1.out _)).mono ?_
    rintro e w2 ⟨rfl, hB⟩
    have HT2 : Aside0 (Blk w2 gt 109 #[ptr g1, .bool l1, ptr g1, .bool l1, .bool true]) := ⟨(((HT1.out.set_ 2 _).set_ 3 _).set_ 4 _).keep hB⟩
    have E12 := Aside0.mk ((((E1.out.far N1.out _).far N1.out _).far N1.out _).keep hB)
    have HB2 := Aside0.mk (((((Deep.of HB1.out HL.out).set HH.out.1 HT1.out (.inl rfl) 2 _).set HH.out.1 (HT1.out.set_ 2 _) (.inl rfl) 3 _).set HH.out.1 ((HT1.out.set_ 2 _).set_ 3 _) (.inl rfl) 4 _).step HL.out hB)
    clear hB c0 c1 c2 c3 c4 f0 f1 f2 f3 f4 HB1 HT1 E1 E2
    go_wp2_with fail
    refine (dirt_new (n : Int) _).mono ?_
    rintro e w3 ⟨rfl, hd, hB⟩
    rw [show (min (max (n : Int) 0) 64).toNat = n by omega] at hd
    have HT3 := Aside0.mk (HT2.out.keep hB)
    have E13 := Aside0.mk (E12.out.keep hB)
    have HD3 := Aside0.mk hd
    have HB3 := Aside0.mk (HB2.out.step HL.out hB)
    have HG : Aside0 (base ≤ w2.heap.size ∧ w2.heap.size ≠ g1) := ⟨by have := HB2.out.1.size; have := HL.out; have := E12.out.lt; omega⟩
    have N3 : Aside0 (w2.heap.size ≠ gt) := ⟨hd.ne HT3.out (by decide)⟩
    have c0 := HT3.out.cell (i := 0) rfl
    have c1 := HT3.out.cell (i := 1) rfl
    have f0 := HT3.out.frozen 0
    have f1 := HT3.out.frozen 1
    clear hB hd HB2 HT2 E12
    generalize w2.heap.size = g3 at *
    go_wp2_with fail
    go_ret
    exact ⟨rfl, ⟨g3, g1, HH.out.1, HG.out.1, HH.out.2.1, HG.out.2, (HT3.out.set_ 0 _).set_ 1 _, (HD3.out.far N3.out _).far N3.out _, (E13.out.far N1.out _).far N1.out _⟩, (HB3.out.set HH.out.1 HT3.out (.inl rfl) 0 _).set HH.out.1 (HT3.out.set_ 0 _) (.inl rfl) 1 _⟩
  · skip
    go_enter Try.func37, Try.ntmps37
    go_wp2_with fail
    refine HN.out.mono ?_
    rintro e w1 ⟨rfl, hB⟩
    have HB1 := Aside0.mk hB
    have HT1 := Aside0.mk (HT.out.keep hB)
    have E1 := Aside0.mk (HD1.out.keep hB)
    have E2 := Aside0.mk (HD2.out.keep hB)
    clear hB HN HT HD1 HD2
    have c4 := HT1.out.cell (i := 4) rfl
    go_wp2_with fail
    go_ret
    obtain ⟨h1, h2, h3, h4⟩ := HH.out
    exact ⟨rfl, ⟨g1, g2, h1, h2, h3, h4, HT1.out, E1.out, E2.out⟩, Deep.of HB1.out HL.out⟩
set_option maxRecDepth 100000 in
set_option maxHeartbeats 800000 in
theorem track_end (base gt n x1 x2 : Nat) (l1 l2 b : Bool) (w : World) (h : TrackAt w base gt n x1 x2 l1 l2 b) (hn : n ≤ 64) :
    Calls Try.prog 90 #[ptr gt] w fun e w' => e = .returned (.tuple #[]) ∧ TrackAt w' base gt n x1 0 l1 false false ∧ Deep base w w' := by
  have HL := Aside0.mk h.le
  have HN := Aside0.mk (track_none base gt n x1 x2 l1 l2 b w h)
  obtain ⟨g1, g2, h1, h2, h3, h4, ht, d1, d2⟩ := h
  have HT := Aside0.mk ht
  have HD1 := Aside0.mk d1
  have HD2 := Aside0.mk d2
  have N1 : Aside0 (g1 ≠ gt) := ⟨d1.ne ht (by decide)⟩
  have N2 : Aside0 (g2 ≠ gt) := ⟨d2.ne ht (by decide)⟩
  have HH : Aside0 (base ≤ gt ∧ base ≤ g1 ∧ base ≤ g2 ∧ g1 ≠ g2) := ⟨⟨h1, h2, h3, h4⟩⟩
  clear ht d1 d2 h1 h2 h3 h4
  have c0 := HT.out.cell (i := 0) rfl
  go_enter Try.func90, Try.ntmps90
  go_wp2_with fail
  refine (dirt_blocks g1 n x1 _ HD1.out).mono ?_
  rintro e w2 ⟨rfl, hB⟩
  have HT2 := Aside0.mk (HT.out.keep hB)
  have E12 := Aside0.mk (HD1.out.keep hB)
  have HB2 := Aside0.mk (Deep.of hB HL.out)
  clear hB c0 HT HD1 HD2
  go_wp2_with fail
  refine (dirt_new (n : Int) _).mono ?_
  rintro e w3 ⟨rfl, hd, hB⟩
  rw [show (min (max (n : Int) 0) 64).toNat = n by omega] at hd
  have HT3 := Aside0.mk (HT2.out.keep hB)
  have E13 := Aside0.mk (E12.out.keep hB)
  have HD3 := Aside0.mk hd
  have HB3 := Aside0.mk (HB2.out.step HL.out hB)
  have HG : Aside0 (base ≤ w2.heap.size ∧ g1 ≠ w2.heap.size) := ⟨by have := HB2.out.1.size; have := HL.out; have := E12.out.lt; omega⟩
  have N3 : Aside0 (w2.heap.size ≠ gt) := ⟨hd.ne HT3.out (by decide)⟩
  have c2 := HT3.out.cell (i := 2) rfl
  have c3 := HT3.out.cell (i := 3) rfl
  have c4 := HT3.out.cell (i := 4) rfl
  have f2 := HT3.out.frozen 2
  have f3 := HT3.out.frozen 3
  have f4 := HT3.out.frozen 4
  clear hB hd HB2 HT2 E12
  generalize w2.heap.size = g3 at *
  go_wp2_with fail
  go_end0
  exact ⟨rfl, ⟨g1, g3, HH.out.1, HH.out.2.1, HG.out.1, HG.out.2, ((HT3.out.set_ 2 _).set_ 3 _).set_ 4 _, ((E13.out.far N1.out _).far N1.out _).far N1.out _, ((HD3.out.far N3.out _).far N3.out _).far N3.out _⟩, ((HB3.out.set HH.out.1 HT3.out (.inl rfl) 2 _).set HH.out.1 (HT3.out.set_ 2 _) (.inl rfl) 3 _).set HH.out.1 ((HT3.out.set_ 2 _).set_ 3 _) (.inl rfl) 4 _⟩
set_option maxRecDepth 100000 in
set_option maxHeartbeats 800000 in
theorem track_commit (base gt n x1 x2 : Nat) (l1 l2 b : Bool) (w : World) (h : TrackAt w base gt n x1 x2 l1 l2 b) (hn : n ≤ 64) :
    Calls Try.prog 39 #[ptr gt] w fun e w' => e = .returned (.int .i64 (if b then 0 else 4)) ∧ (if b then TrackAt w' base gt n x1 0 l1 false false else TrackAt w' base gt n x1 x2 l1 l2 b) ∧ Deep base w w' := by
  have H := Aside0.mk h
  have HL := Aside0.mk h.le
  have HI := Aside0.mk (track_idle base gt n x1 x2 l1 l2 b w h)
  clear h
  cases b
  · skip
    go_enter Try.func39, Try.ntmps39
    go_wp2_with fail
    refine HI.out.mono ?_
    rintro e w1 ⟨rfl, hB⟩
    have HB1 := Aside0.mk (Deep.of hB HL.out)
    have H1 := Aside0.mk (H.out.keep hB)
    clear hB HI H
    rw [if_neg (by decide)]
    go_wp2_with fail
    go_ret
    exact ⟨rfl, H1.out, HB1.out⟩
  · skip
    go_enter Try.func39, Try.ntmps39
    go_wp2_with fail
    refine HI.out.mono ?_
    rintro e w1 ⟨rfl, hB⟩
    have HB1 := Aside0.mk (Deep.of hB HL.out)
    have H1 := Aside0.mk (H.out.keep hB)
    clear hB HI H
    rw [if_pos trivial]
    go_wp2_with fail
    refine (track_end base gt n x1 x2 l1 l2 true w1 H1.out hn).mono ?_
    rintro e w2 ⟨rfl, ht, hB⟩
    have HB2 := Aside0.mk (HB1.out.trans hB)
    have H2 := Aside0.mk ht
    clear ht hB
    go_wp2_with fail
    go_ret
    exact ⟨rfl, H2.out, HB2.out⟩
set_option maxRecDepth 100000 in
set_option maxHeartbeats 800000 in
theorem track_back (base gt n x1 x2 : Nat) (l1 l2 b : Bool) (w : World) (h : TrackAt w base gt n x1 x2 l1 l2 b) (hn : n ≤ 64) (hx : x1 < 18446744073709551616) (hy : x2 < 18446744073709551616) :
    Calls Try.prog 45 #[ptr gt] w fun e w' => e = .returned (.int .i64 (if b then 0 else 4)) ∧ (if b then TrackAt w' base gt n (x1 ||| (x2 &&& ones 0 n)) 0 (l1 || l2) false false else TrackAt w' base gt n x1 x2 l1 l2 b) ∧ Deep base w w' := by
  have H := Aside0.mk h
  have HI := Aside0.mk (track_idle base gt n x1 x2 l1 l2 b w h)
  have HL := Aside0.mk h.le
  obtain ⟨g1, g2, h1, h2, h3, h4, ht, d1, d2⟩ := h
  have HT := Aside0.mk ht
  have HD1 := Aside0.mk d1
  have HD2 := Aside0.mk d2
  have N1 : Aside0 (g1 ≠ gt) := ⟨d1.ne ht (by decide)⟩
  have N2 : Aside0 (g2 ≠ gt) := ⟨d2.ne ht (by decide)⟩
  have HH : Aside0 (base ≤ gt ∧ base ≤ g1 ∧ base ≤ g2 ∧ g1 ≠ g2) := ⟨⟨h1, h2, h3, h4⟩⟩
  clear ht d1 d2 h1 h2 h3 h4
  cases b
  · skip
    go_enter Try.func45, Try.ntmps45
    go_wp2_with fail
    refine HI.out.mono ?_
    rintro e w1 ⟨rfl, hB⟩
    have HB1 := Aside0.mk (Deep.of hB HL.out)
    have H1 := Aside0.mk (H.out.keep hB)
    clear hB HI H
    rw [if_neg (by decide)]
    go_wp2_with fail
    go_ret
    exact ⟨rfl, H1.out, HB1.out⟩
  · skip
    go_enter Try.func45, Try.ntmps45
    go_wp2_with fail
    refine HI.out.mono ?_
    rintro e w1 ⟨rfl, hB⟩
    have HB1 := Aside0.mk hB
    have HT1 := Aside0.mk (HT.out.keep hB)
    have E1 := Aside0.mk (HD1.out.keep hB)
    have E2 := Aside0.mk (HD2.out.keep hB)
    have c0 := HT1.out.cell (i := 0) rfl
    have c2 := HT1.out.cell (i := 2) rfl
    clear hB HI H HT HD1 HD2
    rw [if_pos trivial]
    go_wp2_with fail
    refine start_ (n := 11) (S := fun w' => w'.cell? ⟨gt, 0, none⟩ = some (ptr g1) ∧ w'.cell? ⟨gt, 2, none⟩ = some (ptr g2) ∧ Below w.heap.size w w' ∧ DirtAt w' g1 n x1 ∧ Blk w' gt 109 #[ptr g1, .bool l1, ptr g2, .bool l2, .bool true] ∧ DirtAt w' g2 n x2) (ds := [10]) #[false, false, false, false, false, false, false, false, false, false, false] (by kernel_rfl) rfl rfl ⟨c0, c2, (below_drew1 HB1.out), (Blk.drew E1.out), (Blk.drew HT1.out), (Blk.drew E2.out)⟩ (fun hHeld => ?_)
    refine pure_ (i := 0) (N := some 8) (v := ?_) (a' := ?_) #[true, false, false, false, false, false, false, false, false, false, false] rfl rfl (by kernel_rfl) (fun _ _ _ h => h) (Or.inl ⟨by rfl, ?_⟩) ?_ ?_
    rotate_left
    · intro w'
      go_simp
      with_reducible rfl
    rotate_left
    · simp only [Act.put, List.setIfInBounds_toArray, List.set_cons_zero, List.set_cons_succ, i64_w, i32_w]
      rfl
    refine pure_ (i := 1) (N := some 9) (v := ?_) (a' := ?_) #[true, true, false, false, false, false, false, false, false, false, false] rfl rfl (by kernel_rfl) (fun _ _ _ h => h) (Or.inl ⟨by rfl, ?_⟩) ?_ ?_
    rotate_left
    · intro w'
      go_simp
      with_reducible rfl
    rotate_left
    · simp only [Act.put, List.setIfInBounds_toArray, List.set_cons_zero, List.set_cons_succ, i64_w, i32_w]
      rfl
    refine pure_ (i := 2) (N := some 10) (v := ?_) (a' := ?_) #[true, true, true, false, false, false, false, false, false, false, false] rfl rfl (by kernel_rfl) (fun _ _ _ h => h) (Or.inl ⟨by rfl, ?_⟩) ?_ ?_
    rotate_left
    · intro w'
      go_simp
      with_reducible rfl
    rotate_left
    · simp only [Act.put, List.setIfInBounds_toArray, List.set_cons_zero, List.set_cons_succ, i64_w, i32_w]
      rfl
    refine pure_ (i := 3) (N := some 11) (v := ?_) (a' := ?_) #[true, true, true, true, false, false, false, false, false, false, false] rfl rfl (by kernel_rfl) (fun _ _ _ h => h) (Or.inl ⟨by rfl, ?_⟩) ?_ ?_
    rotate_left
    · intro w'
      go_simp
      with_reducible rfl
    rotate_left
    · simp only [Act.put, List.setIfInBounds_toArray, List.set_cons_zero, List.set_cons_succ, i64_w, i32_w]
      rfl
    refine pure_ (i := 5) (N := some 13) (v := ?_) (a' := ?_) #[true, true, true, true, false, true, false, false, false, false, false] rfl rfl (by kernel_rfl) (fun _ _ _ h => h) (Or.inl ⟨by rfl, ?_⟩) ?_ ?_
    rotate_left
    · intro w'
      go_simp
      with_reducible rfl
    rotate_left
    · simp only [Act.put, List.setIfInBounds_toArray, List.set_cons_zero, List.set_cons_succ, i64_w, i32_w]
      rfl
    refine pure_ (i := 6) (N := some 14) (v := ?_) (a' := ?_) #[true, true, true, true, false, true, true, false, false, false, false] rfl rfl (by kernel_rfl) (fun _ _ _ h => h) (Or.inl ⟨by rfl, ?_⟩) ?_ ?_
    rotate_left
    · intro w'
      go_simp
      with_reducible rfl
    rotate_left
    · simp only [Act.put, List.setIfInBounds_toArray, List.set_cons_zero, List.set_cons_succ, i64_w, i32_w]
      rfl
    refine pure_ (i := 7) (N := some 15) (v := ?_) (a' := ?_) #[true, true, true, true, false, true, true, true, false, false, false] rfl rfl (by kernel_rfl) (fun _ _ _ h => h) (Or.inl ⟨by rfl, ?_⟩) ?_ ?_
    rotate_left
    · intro w'
      go_simp
      with_reducible rfl
    rotate_left
    · simp only [Act.put, List.setIfInBounds_toArray, List.set_cons_zero, List.set_cons_succ, i64_w, i32_w]
      rfl
    refine pure_ (i := 8) (N := some 16) (v := ?_) (a' := ?_) #[true, true, true, true, false, true, true, true, true, false, false] rfl rfl (by kernel_rfl) (fun _ _ _ h => h) (Or.inl ⟨by rfl, ?_⟩) ?_ ?_
    rotate_left
    · intro w'
      go_simp
      with_reducible rfl
    rotate_left
    · simp only [Act.put, List.setIfInBounds_toArray, List.set_cons_zero, List.set_cons_succ, i64_w, i32_w]
      rfl
    refine take_ (i := 4) (N := some 12) (v := ?_) (a' := ?_) #[true, true, true, true, true, true, true, true, true, false, false] rfl rfl (by kernel_rfl) (fun _ _ _ h => h) (Or.inl ⟨by rfl, ?_⟩) hHeld ?_ ?_
    rotate_left
    · rintro w' ⟨s0, s1, s2, s3, s4, s5⟩
      go_simp
      with_reducible rfl
    rotate_left
    · simp only [Act.put, List.setIfInBounds_toArray, List.set_cons_zero, List.set_cons_succ, i64_w, i32_w]
      rfl
    refine take_ (i := 9) (N := some 17) (v := ?_) (a' := ?_) #[true, true, true, true, true, true, true, true, true, true, false] rfl rfl (by kernel_rfl) (fun _ _ _ h => h) (Or.inl ⟨by rfl, ?_⟩) hHeld ?_ ?_
    rotate_left
    · rintro w' ⟨s0, s1, s2, s3, s4, s5⟩
      go_simp
      with_reducible rfl
    rotate_left
    · simp only [Act.put, List.setIfInBounds_toArray, List.set_cons_zero, List.set_cons_succ, i64_w, i32_w]
      rfl
    refine last_ (i := 10) (N := some 18) #[true, true, true, true, true, true, true, true, true, true, true] rfl rfl (by kernel_rfl) (by decide) (fun K hK => ?_)
    refine goes_ Try.func18 (by kernel_rfl) rfl #[ptr g1, ptr g2] (by rfl) rfl rfl (by simp only [List.map_toArray, List.map_cons, List.map_nil]; rfl) ?_
    with_reducible refine (dirt_or g1 n x1 g2 n x2 hn hx hy _ hHeld.2.2.2.1 hHeld.2.2.2.2.2).mono ?_
    rintro e w2 ⟨rfl, hd, ho⟩
    refine ⟨_, rfl, ?_⟩
    have hT2 := Blk.only hHeld.2.2.2.2.1 ho (Ne.symm N1.out)
    have hD2 := Blk.only hHeld.2.2.2.2.2 ho (Ne.symm HH.out.2.2.2)
    have hO3 := (Deep.of hHeld.2.2.1 HL.out).only HL.out HH.out.2.1 hHeld.2.2.2.1 (.inr rfl) ho
    refine hK.out _ _ ?_
    clear hK K
    refine norm_ (a' := ?_) ?_ ?_
    rotate_left
    · show Act.put _ (some 18) _ = _
      simp only [Act.put, List.setIfInBounds_toArray, List.set_cons_zero, List.set_cons_succ, i64_w, i32_w]
      rfl
    refine done_ (by kernel_rfl) ?_
    have HB3 := Aside0.mk hO3
    have HT2 := Aside0.mk hT2
    have HD2 := Aside0.mk hD2
    have HDn := Aside0.mk hd
    have c1 := hT2.cell (i := 1) rfl
    have c3 := hT2.cell (i := 3) rfl
    have f1 := hT2.frozen 1
    clear hO3 hT2 hD2 hd ho hHeld c0 c2 HT1 E1 E2 HB1
    have hH := HH.out
    obtain ⟨h1, h2, h3, h4⟩ := hH
    have Hend : ∀ W l, Deep base w W → TrackAt W base gt n (x1 ||| (x2 &&& ones 0 n)) x2 l l2 true → Calls Try.prog 90 #[ptr gt] W fun e w' => e = .returned (.tuple #[]) ∧ TrackAt w' base gt n (x1 ||| (x2 &&& ones 0 n)) 0 l false false ∧ Deep base w w' := fun W l hB hT => (track_end base gt n _ x2 l l2 true W hT hn).mono (fun e w' ⟨p, q, r⟩ => ⟨p, q, hB.trans r⟩)
    have HE := Aside0.mk Hend
    have HHq : Aside0 (base ≤ gt ∧ base ≤ g1 ∧ base ≤ g2 ∧ g1 ≠ g2) := ⟨⟨h1, h2, h3, h4⟩⟩
    clear Hend h1 h2 h3 h4
    cases l1
    all_goals
      go_wp2_with fail
      refine (HE.out _ _ (HB3.out.set HHq.out.1 HT2.out (.inl rfl) 1 _) ⟨g1, g2, HHq.out.1, HHq.out.2.1, HHq.out.2.2.1, HHq.out.2.2.2, HT2.out.set_ 1 _, HDn.out.far N1.out _, HD2.out.far N2.out _⟩).mono ?_
      rintro e w4 ⟨rfl, ht, hB⟩
      have H4 := Aside0.mk ht
      have HB4 := Aside0.mk hB
      clear ht hB
      go_wp2_with fail
      go_ret
      exact ⟨rfl, H4.out, HB4.out⟩
end Go.Proofs.Ytffemlfdhkndiaa.Hand
