/- Chapter 2's first call, walked; what came in is read. -/
import Derived.Test.YtjbimnicnehnaaaRunsE
import Derived.Test.YtjbimnicnehnaaaRunsF
import Derived.Test.YtjbimnicnehnaaaRunsG
import Derived.Test.YtjbimnicnehnaaaAx0
import Derived.Test.YtjbimnicnehnaaaAx1
namespace Go.Proofs.Ytjbimnicnehnaaa.Hand
open Go.RowKit Go.Proofs.YtjbimnicnehnaaaW.PrintWords Go.Proofs.YtjbimnicnehnaaaW.PrintLast Go.Proofs.YtjbimnicnehnaaaW.PrintMore Go.Proofs.Ytjbimnicnehnaaa.A
set_option linter.unusedVariables false
set_option linter.unusedSimpArgs false
attribute [local go_sem] max2_int min2_int max_two min_two max_three min_three max_four min_four
attribute [local go_sem high] eqA24
theorem ORow.lit (w : World) (base : Nat) (hb : base ≤ w.heap.size) (l : List S24) (hl : l.length ≤ 1000000) (cs : Array Value) (hcs : cs.toList = flat l) : ORow (w.alloc (.cells cs 24)) base (.slice (some ⟨w.heap.size, 0, none⟩) l.length l.length) l := by
  have h := World.ownsRow_lit (base := base) (e := 24) (size := 2) w cs l.length hb (by unfold maxLen; omega) (by rw [← Array.length_toList, hcs, flat_length])
  rw [hcs] at h
  exact h
theorem C_lit (w : World) (l : List S24) (hl : l.length ≤ 1000000) (cs : Array Value) (hcs : cs.toList = flat l) : Kd.C k24 (w.alloc (.cells cs 24)) (some ⟨w.heap.size, 0, none⟩) l.length l := by
  obtain ⟨A, c, he, _, hC, _⟩ := (ORow.lit w 0 (Nat.zero_le _) l hl cs hcs).reads
  injection he with he _ _
  rw [he]; exact hC
set_option maxRecDepth 100000 in
theorem alive2 (w : World) :
    Calls Try.prog 30 #[] w fun e w' => e = .returned (.bool true) ∧ Below w.heap.size w w' := by
  go_enter Try.func30, Try.ntmps30
  go_wp2_with fail
  have h1 := runs_of [⟨0, 2⟩, ⟨2, 3⟩] (some ⟨w.heap.size, 0, none⟩) 2 _ (C_lit w [⟨0, 2⟩, ⟨2, 3⟩] (by decide) #[.int .i64 0, .int .i64 2, .int .i64 2, .int .i64 3] rfl)
  rw [show putV [] [⟨0, 2⟩, ⟨2, 3⟩] = [⟨0, 5⟩] by decide] at h1
  refine h1.mono ?_
  clear h1
  rintro e w1 ⟨rfl, hr, hB⟩
  have HR1 : Aside0 (RunsAt w1 (w.heap.size + 1) (w.heap.size + 1) [⟨0, 5⟩]) := ⟨by simpa using hr⟩
  have HB1 : Aside0 (Below w.heap.size w w1) := ⟨below_step (below_alloc (Below.refl _ _) _) hB⟩
  rw [show (w.alloc (.cells #[.int .i64 0, .int .i64 2, .int .i64 2, .int .i64 3] 24)).heap.size = w.heap.size + 1 by simp]
  clear hr hB
  go_wp2_with fail
  have hlt := HR1.out.lt
  have hs1 : w.heap.size + 1 ≤ w1.heap.size := by omega
  have h2 := runs_cut (w.heap.size + 1) (w.heap.size + 1) [⟨0, 5⟩] [⟨1, 1⟩] (some ⟨w1.heap.size, 0, none⟩) 1 (w1.alloc (.cells #[.int .i64 1, .int .i64 1] 24)) ⟨by decide, by decide, by decide, trivial⟩ (HR1.out.keep (below_alloc (Below.refl _ _) _)) (by simp; omega) (C_lit w1 [⟨1, 1⟩] (by decide) _ rfl) (fun _ a ha => by injection ha with ha; subst ha; simp; omega)
  rw [show sumN [⟨0, 5⟩] - sumN (cutAllV [⟨0, 5⟩] [⟨1, 1⟩]) = 1 by decide, show cutAllV [⟨0, 5⟩] [⟨1, 1⟩] = [⟨0, 1⟩, ⟨2, 3⟩] by decide] at h2
  clear hlt hs1
  refine h2.mono ?_
  clear h2
  rintro e w2 ⟨rfl, hr, ho⟩
  have HB2 : Aside0 (Below w.heap.size w w2) := ⟨below_only (below_alloc HB1.out _) ho (by omega)⟩
  have HR2 := Aside0.mk hr
  clear hr ho HR1 HB1
  go_wp2_with fail
  refine (runs_all (w.heap.size + 1) (w.heap.size + 1) _ (by decide) w2 HR2.out).mono ?_
  rintro e w3 ⟨v, rfl, ho, hB⟩
  obtain ⟨g3, c, rfl, hlc, _, _, hc, _⟩ := ho.opened (by decide)
  have HB3 : Aside0 (Below w.heap.size w w3) := ⟨below_step HB2.out hB⟩
  have HR3 := Aside0.mk (HR2.out.keep hB)
  have x0 : w3.cell? ⟨g3, 0, none⟩ = some (.int .i64 0) := (hc 0 _ rfl).1
  have x1 : w3.cell? ⟨g3, 1, none⟩ = some (.int .i64 1) := (hc 0 _ rfl).2
  have y0 : w3.cell? ⟨g3, 2, none⟩ = some (.int .i64 2) := (hc 1 _ rfl).1
  have y1 : w3.cell? ⟨g3, 3, none⟩ = some (.int .i64 3) := (hc 1 _ rfl).2
  clear hc ho hB HB2 HR2 hlc
  go_wp2_with fail
  refine (runs_count (w.heap.size + 1) (w.heap.size + 1) [⟨0, 1⟩, ⟨2, 3⟩] w3 ⟨by decide, by decide, by decide, by decide, by decide, by decide, trivial⟩ HR3.out).mono ?_
  rintro e w4 ⟨rfl, hB⟩
  have HB4 : Aside0 (Below w.heap.size w w4) := ⟨below_step HB3.out hB⟩
  rw [show sumN [⟨0, 1⟩, ⟨2, 3⟩] = 4 by decide]
  clear hB
  go_wp2_with fail
  go_ret
  exact ⟨rfl, HB4.out⟩
end Go.Proofs.Ytjbimnicnehnaaa.Hand
