/- Parts of the proof for SpanTells: BookA, BookAddS, Bm. -/
import Derived.Test.YtjbimnicnehnaaaJSpanTells5
import Derived.Test.YtjbimnicnehnaaaJSpanTells2
import Derived.Test.YtjbimnicnehnaaaJSpanTells4
section
namespace Go.Proofs.Ytjbimnicnehnaaa.Hand
open Go.RowKit Go.Proofs.YtjbimnicnehnaaaW.PrintWords Go.Proofs.YtjbimnicnehnaaaW.PrintLast Go.Proofs.YtjbimnicnehnaaaW.PrintMore Go.Proofs.Ytjbimnicnehnaaa.A
set_option linter.unusedVariables false
set_option linter.unusedSimpArgs false
attribute [local go_sem] max2_int min2_int max_two min_two max_three min_three max_four min_four
theorem lowB {n base : Nat} {w w1 : World} (hb : Below n w w1) (h : base ≤ n) : Below base w w1 := ⟨hb.os, hb.tape, hb.output, hb.size, fun k hk => hb.block k (by omega)⟩
theorem marked_Spans (t base n c : Nat) (ht : t ≤ 100) (A : Option Addr) (vs : List Value) (L : List (List S24)) (hL : L.length ≤ 250) (hB : ∀ (i : Nat) l, L[i]? = some l → l.length ≤ 1000000) (w : World)
    (h : Shows k24 24 31 w base (.slice A n c) vs L (fun i l => marks mkSpans i 0 (l.length + t))) :
    Calls Try.prog 69 #[.slice A n c] w fun e w' => e = .returned (.bool true) ∧ Below w.heap.size w w' := by
  obtain ⟨hn, hc, hC⟩ := h.calls
  subst hn
  have hlen : (L.mapIdx (fun i l => marks mkSpans i 0 (l.length + t))).length = L.length := List.length_mapIdx
  refine emulsionbook_markedSpans.calls 2000000 A c _ true w hC hc (markedSpans_f _ (by rw [hlen]; omega) 1000100 (by omega) (fun i l hl => ?_) _ (by rw [hlen]; omega))
  rw [List.getElem?_mapIdx] at hl
  obtain ⟨l0, hl0, rfl⟩ := Option.map_eq_some_iff.1 hl
  have := hB i l0 hl0
  rw [marks_length]
  exact ⟨by omega, rfl⟩
theorem marked_Ints (t base n c : Nat) (ht : t ≤ 100) (A : Option Addr) (vs : List Value) (L : List (List Int)) (hL : L.length ≤ 250) (hB : ∀ (i : Nat) l, L[i]? = some l → l.length ≤ 1000000) (w : World)
    (h : Shows (Kd.int .i64) 3 91 w base (.slice A n c) vs L (fun i l => marks mkInts i 0 (l.length + t))) :
    Calls Try.prog 68 #[.slice A n c] w fun e w' => e = .returned (.bool true) ∧ Below w.heap.size w w' := by
  obtain ⟨hn, hc, hC⟩ := h.calls
  subst hn
  have hlen : (L.mapIdx (fun i l => marks mkInts i 0 (l.length + t))).length = L.length := List.length_mapIdx
  refine emulsionbook_markedInts.calls 2000000 A c _ true w hC hc (markedInts_f _ (by rw [hlen]; omega) 1000100 (by omega) (fun i l hl => ?_) _ (by rw [hlen]; omega))
  rw [List.getElem?_mapIdx] at hl
  obtain ⟨l0, hl0, rfl⟩ := Option.map_eq_some_iff.1 hl
  have := hB i l0 hl0
  rw [marks_length]
  exact ⟨by omega, rfl⟩
theorem marked_Extents (t base n c : Nat) (ht : t ≤ 100) (A : Option Addr) (vs : List Value) (L : List (List S108)) (hL : L.length ≤ 250) (hB : ∀ (i : Nat) l, L[i]? = some l → l.length ≤ 1000000) (w : World)
    (h : Shows k108 108 93 w base (.slice A n c) vs L (fun i l => marks mkExtents i 0 (l.length + t))) :
    Calls Try.prog 70 #[.slice A n c] w fun e w' => e = .returned (.bool true) ∧ Below w.heap.size w w' := by
  obtain ⟨hn, hc, hC⟩ := h.calls
  subst hn
  have hlen : (L.mapIdx (fun i l => marks mkExtents i 0 (l.length + t))).length = L.length := List.length_mapIdx
  refine emulsionbook_markedExtents.calls 2000000 A c _ true w hC hc (markedExtents_f _ (by rw [hlen]; omega) 1000100 (by omega) (fun i l hl => ?_) _ (by rw [hlen]; omega))
  rw [List.getElem?_mapIdx] at hl
  obtain ⟨l0, hl0, rfl⟩ := Option.map_eq_some_iff.1 hl
  have := hB i l0 hl0
  rw [marks_length]
  exact ⟨by omega, rfl⟩
set_option maxRecDepth 100000 in
set_option maxHeartbeats 6400000 in
theorem apart (g base : Nat) (VI UI VS US VE UE : Value) (vi ui vss us ve ue : List Value) (LI : List (List Int)) (LS : List (List S24)) (LE : List (List S108)) (w : World)
    (hb : Blk w g 47 (bookC VI UI VS US VE UE)) (hI : Pile (Kd.int .i64) 3 91 w base VI UI vi ui LI) (hS : Pile k24 24 31 w base VS US vss us LS) (hE : Pile k108 108 93 w base VE UE ve ue LE)
    (bI : LI.length ≤ 250 ∧ ∀ (i : Nat) l, LI[i]? = some l → l.length ≤ 1000000) (bS : LS.length ≤ 250 ∧ ∀ (i : Nat) l, LS[i]? = some l → l.length ≤ 1000000) (bE : LE.length ≤ 250 ∧ ∀ (i : Nat) l, LE[i]? = some l → l.length ≤ 1000000) (hbase : base ≤ w.heap.size) :
    Calls Try.prog 29 #[.pointer (some ⟨g, 0, none⟩)] w fun e w' => e = .returned (.bool true) ∧ Below base w w' := by
  have HF := Aside0.mk (Below.refl base w)
  obtain ⟨AI, nI, rfl⟩ := row_slice hI.hV
  obtain ⟨AS, nS, rfl⟩ := row_slice hS.hV
  obtain ⟨AE, nE, rfl⟩ := row_slice hE.hV
  have HB := Aside0.mk hb
  have HI := Aside0.mk hI
  have HS := Aside0.mk hS
  have HE := Aside0.mk hE
  have BHI := Aside0.mk bI
  have BHS := Aside0.mk bS
  have BHE := Aside0.mk bE
  have Hbase := Aside0.mk hbase
  clear hb hI hS hE bI bS bE hbase
  go_enter Try.func29, Try.ntmps29
  go_wp2_with fail
  refine (still_nil_Texts g _ _ HB.out rfl).mono ?_
  rintro e w1 ⟨rfl, rfl⟩
  go_wp2_with fail
  refine (still_Ints g base _ _ _ _ _ _ _ _ _ _ HB.out HI.out BHI.out.1 BHI.out.2).mono ?_
  rintro e w1 ⟨rfl, hb⟩
  replace HI := Aside0.mk (HI.out.below hb)
  replace HS := Aside0.mk (HS.out.below hb)
  replace HE := Aside0.mk (HE.out.below hb)
  replace HB := Aside0.mk (HB.out.keep hb)
  replace HF := Aside0.mk (HF.out.trans (lowB hb Hbase.out))
  replace Hbase := Aside0.mk (Nat.le_trans Hbase.out hb.size)
  clear hb
  go_wp2_with fail
  refine (still_Spans g base _ _ _ _ _ _ _ _ _ _ HB.out HS.out BHS.out.1 BHS.out.2).mono ?_
  rintro e w1 ⟨rfl, hb⟩
  replace HI := Aside0.mk (HI.out.below hb)
  replace HS := Aside0.mk (HS.out.below hb)
  replace HE := Aside0.mk (HE.out.below hb)
  replace HB := Aside0.mk (HB.out.keep hb)
  replace HF := Aside0.mk (HF.out.trans (lowB hb Hbase.out))
  replace Hbase := Aside0.mk (Nat.le_trans Hbase.out hb.size)
  clear hb
  go_wp2_with fail
  refine (still_Extents g base _ _ _ _ _ _ _ _ _ _ HB.out HE.out BHE.out.1 BHE.out.2).mono ?_
  rintro e w1 ⟨rfl, hb⟩
  replace HI := Aside0.mk (HI.out.below hb)
  replace HS := Aside0.mk (HS.out.below hb)
  replace HE := Aside0.mk (HE.out.below hb)
  replace HB := Aside0.mk (HB.out.keep hb)
  replace HF := Aside0.mk (HF.out.trans (lowB hb Hbase.out))
  replace Hbase := Aside0.mk (Nat.le_trans Hbase.out hb.size)
  clear hb
  go_wp2_with fail
  refine (still_nil_Shelves g _ _ HB.out rfl).mono ?_
  rintro e w1 ⟨rfl, rfl⟩
  go_wp2_with fail
  refine (still_nil_Pairs g _ _ HB.out rfl).mono ?_
  rintro e w1 ⟨rfl, rfl⟩
  go_wp2_with fail
  refine (still_nil_Points g _ _ HB.out rfl).mono ?_
  rintro e w1 ⟨rfl, rfl⟩
  go_wp2_with fail
  replace HI := Aside0.mk HI.out.shelf
  replace HS := Aside0.mk HS.out.shelf
  replace HE := Aside0.mk HE.out.shelf
  refine (put_nil_Points g _ _ HB.out rfl).mono ?_
  rintro e w1 ⟨rfl, rfl⟩
  go_wp2_with fail
  refine (put_nil_Texts g _ _ HB.out rfl).mono ?_
  rintro e w1 ⟨rfl, rfl⟩
  go_wp2_with fail
  refine (put_Ints g base _ _ _ _ _ _ _ _ _ HB.out HI.out BHI.out.1 BHI.out.2 Hbase.out).mono ?_
  rintro e w1 ⟨rfl, hs, hx⟩
  replace HI := Aside0.mk hs
  replace HS := Aside0.mk (HS.out.fx rfl hx (by decide) (by decide))
  replace HE := Aside0.mk (HE.out.fx rfl hx (by decide) (by decide))
  replace HB := Aside0.mk (hx.blk HB.out (by decide))
  replace HF := Aside0.mk (HF.out.trans hx.1)
  replace Hbase := Aside0.mk (hx.base_le Hbase.out)
  clear hs hx
  go_wp2_with fail
  refine (put_Spans g base _ _ _ _ _ _ _ _ _ HB.out HS.out BHS.out.1 BHS.out.2 Hbase.out).mono ?_
  rintro e w1 ⟨rfl, hs, hx⟩
  replace HS := Aside0.mk hs
  replace HI := Aside0.mk (HI.out.fx rfl hx (by decide) (by decide))
  replace HE := Aside0.mk (HE.out.fx rfl hx (by decide) (by decide))
  replace HB := Aside0.mk (hx.blk HB.out (by decide))
  replace HF := Aside0.mk (HF.out.trans hx.1)
  replace Hbase := Aside0.mk (hx.base_le Hbase.out)
  clear hs hx
  go_wp2_with fail
  refine (put_Extents g base _ _ _ _ _ _ _ _ _ HB.out HE.out BHE.out.1 BHE.out.2 Hbase.out).mono ?_
  rintro e w1 ⟨rfl, hs, hx⟩
  replace HE := Aside0.mk hs
  replace HI := Aside0.mk (HI.out.fx rfl hx (by decide) (by decide))
  replace HS := Aside0.mk (HS.out.fx rfl hx (by decide) (by decide))
  replace HB := Aside0.mk (hx.blk HB.out (by decide))
  replace HF := Aside0.mk (HF.out.trans hx.1)
  replace Hbase := Aside0.mk (hx.base_le Hbase.out)
  clear hs hx
  go_wp2_with fail
  refine (put_nil_Shelves g _ _ HB.out rfl).mono ?_
  rintro e w1 ⟨rfl, rfl⟩
  go_wp2_with fail
  refine (put_nil_Pairs g _ _ HB.out rfl).mono ?_
  rintro e w1 ⟨rfl, rfl⟩
  go_wp2_with fail
  refine (grow_nil_Texts g _ _ HB.out rfl).mono ?_
  rintro e w1 ⟨rfl, rfl⟩
  go_wp2_with fail
  refine (grow_Ints g base _ _ _ _ _ _ _ _ _ HB.out HI.out BHI.out.1 BHI.out.2 Hbase.out).mono ?_
  rintro e w1 ⟨OHI, rfl, osHI, hs1, hs2, hx⟩
  obtain ⟨AHI, cHI, hO⟩ := row_slice hs1.1
  subst hO
  have GHI := Aside0.mk hs1
  have KHI := Aside0.mk hs2
  replace HS := Aside0.mk (HS.out.fx rfl hx (by decide) (by decide))
  replace HE := Aside0.mk (HE.out.fx rfl hx (by decide) (by decide))
  replace HB := Aside0.mk (hx.blk HB.out (by decide))
  replace HF := Aside0.mk (HF.out.trans hx.1)
  replace Hbase := Aside0.mk (hx.base_le Hbase.out)
  clear hs1 hs2 hx HI
  go_wp2_with fail
  refine (grow_Spans g base _ _ _ _ _ _ _ _ _ HB.out HS.out BHS.out.1 BHS.out.2 Hbase.out).mono ?_
  rintro e w1 ⟨OHS, rfl, osHS, hs1, hs2, hx⟩
  obtain ⟨AHS, cHS, hO⟩ := row_slice hs1.1
  subst hO
  have GHS := Aside0.mk hs1
  have KHS := Aside0.mk hs2
  replace HE := Aside0.mk (HE.out.fx rfl hx (by decide) (by decide))
  replace GHI := Aside0.mk (GHI.out.fx flatInts hx (by decide) (by decide))
  replace KHI := Aside0.mk (KHI.out.fx flatInts hx (by decide) (by decide))
  replace HB := Aside0.mk (hx.blk HB.out (by decide))
  replace HF := Aside0.mk (HF.out.trans hx.1)
  replace Hbase := Aside0.mk (hx.base_le Hbase.out)
  clear hs1 hs2 hx HS
  go_wp2_with fail
  refine (grow_Extents g base _ _ _ _ _ _ _ _ _ HB.out HE.out BHE.out.1 BHE.out.2 Hbase.out).mono ?_
  rintro e w1 ⟨OHE, rfl, osHE, hs1, hs2, hx⟩
  obtain ⟨AHE, cHE, hO⟩ := row_slice hs1.1
  subst hO
  have GHE := Aside0.mk hs1
  have KHE := Aside0.mk hs2
  replace GHI := Aside0.mk (GHI.out.fx flatInts hx (by decide) (by decide))
  replace KHI := Aside0.mk (KHI.out.fx flatInts hx (by decide) (by decide))
  replace GHS := Aside0.mk (GHS.out.fx flatSpans hx (by decide) (by decide))
  replace KHS := Aside0.mk (KHS.out.fx flatSpans hx (by decide) (by decide))
  replace HB := Aside0.mk (hx.blk HB.out (by decide))
  replace HF := Aside0.mk (HF.out.trans hx.1)
  replace Hbase := Aside0.mk (hx.base_le Hbase.out)
  clear hs1 hs2 hx HE
  go_wp2_with fail
  refine (grow_nil_Shelves g _ _ HB.out rfl).mono ?_
  rintro e w1 ⟨rfl, rfl⟩
  go_wp2_with fail
  refine (grow_nil_Pairs g _ _ HB.out rfl).mono ?_
  rintro e w1 ⟨rfl, rfl⟩
  go_wp2_with fail
  refine (grow_nil_Points g _ _ HB.out rfl).mono ?_
  rintro e w1 ⟨rfl, rfl⟩
  have c0 := HB.out.cell (i := 0) (v := .slice none 0 0) rfl
  have c2 := HB.out.cell (i := 2) (v := .slice AI LI.length nI) rfl
  have c4 := HB.out.cell (i := 4) (v := .slice AS LS.length nS) rfl
  have c6 := HB.out.cell (i := 6) (v := .slice AE LE.length nE) rfl
  have c8 := HB.out.cell (i := 8) (v := .slice none 0 0) rfl
  have c10 := HB.out.cell (i := 10) (v := .slice none 0 0) rfl
  have c12 := HB.out.cell (i := 12) (v := .slice none 0 0) rfl
  go_wp2_with fail
  refine (marked_nil_Texts _).mono ?_
  rintro e w1 ⟨rfl, rfl⟩
  go_wp2_with fail
  refine (marked_nil_Texts _).mono ?_
  rintro e w1 ⟨rfl, rfl⟩
  go_wp2_with fail
  refine (marked_Ints 72 _ _ _ (by decide) _ _ _ BHI.out.1 BHI.out.2 _ GHI.out).mono ?_
  rintro e w1 ⟨rfl, hb⟩
  clear c0 c2 c4 c6 c8 c10 c12
  replace GHI := Aside0.mk (GHI.out.below flatInts hb)
  replace KHI := Aside0.mk (KHI.out.below flatInts hb)
  replace GHS := Aside0.mk (GHS.out.below flatSpans hb)
  replace KHS := Aside0.mk (KHS.out.below flatSpans hb)
  replace GHE := Aside0.mk (GHE.out.below flatExtents hb)
  replace KHE := Aside0.mk (KHE.out.below flatExtents hb)
  replace HB := Aside0.mk (HB.out.keep hb)
  replace HF := Aside0.mk (HF.out.trans (lowB hb Hbase.out))
  replace Hbase := Aside0.mk (Nat.le_trans Hbase.out hb.size)
  clear hb
  have c0 := HB.out.cell (i := 0) (v := .slice none 0 0) rfl
  have c2 := HB.out.cell (i := 2) (v := .slice AI LI.length nI) rfl
  have c4 := HB.out.cell (i := 4) (v := .slice AS LS.length nS) rfl
  have c6 := HB.out.cell (i := 6) (v := .slice AE LE.length nE) rfl
  have c8 := HB.out.cell (i := 8) (v := .slice none 0 0) rfl
  have c10 := HB.out.cell (i := 10) (v := .slice none 0 0) rfl
  have c12 := HB.out.cell (i := 12) (v := .slice none 0 0) rfl
  go_wp2_with fail
  refine (marked_Ints 0 _ _ _ (by decide) _ _ _ BHI.out.1 BHI.out.2 _ KHI.out).mono ?_
  rintro e w1 ⟨rfl, hb⟩
  clear c0 c2 c4 c6 c8 c10 c12
  replace GHI := Aside0.mk (GHI.out.below flatInts hb)
  replace KHI := Aside0.mk (KHI.out.below flatInts hb)
  replace GHS := Aside0.mk (GHS.out.below flatSpans hb)
  replace KHS := Aside0.mk (KHS.out.below flatSpans hb)
  replace GHE := Aside0.mk (GHE.out.below flatExtents hb)
  replace KHE := Aside0.mk (KHE.out.below flatExtents hb)
  replace HB := Aside0.mk (HB.out.keep hb)
  replace HF := Aside0.mk (HF.out.trans (lowB hb Hbase.out))
  replace Hbase := Aside0.mk (Nat.le_trans Hbase.out hb.size)
  clear hb
  have c0 := HB.out.cell (i := 0) (v := .slice none 0 0) rfl
  have c2 := HB.out.cell (i := 2) (v := .slice AI LI.length nI) rfl
  have c4 := HB.out.cell (i := 4) (v := .slice AS LS.length nS) rfl
  have c6 := HB.out.cell (i := 6) (v := .slice AE LE.length nE) rfl
  have c8 := HB.out.cell (i := 8) (v := .slice none 0 0) rfl
  have c10 := HB.out.cell (i := 10) (v := .slice none 0 0) rfl
  have c12 := HB.out.cell (i := 12) (v := .slice none 0 0) rfl
  go_wp2_with fail
  refine (marked_Spans 72 _ _ _ (by decide) _ _ _ BHS.out.1 BHS.out.2 _ GHS.out).mono ?_
  rintro e w1 ⟨rfl, hb⟩
  clear c0 c2 c4 c6 c8 c10 c12
  replace GHI := Aside0.mk (GHI.out.below flatInts hb)
  replace KHI := Aside0.mk (KHI.out.below flatInts hb)
  replace GHS := Aside0.mk (GHS.out.below flatSpans hb)
  replace KHS := Aside0.mk (KHS.out.below flatSpans hb)
  replace GHE := Aside0.mk (GHE.out.below flatExtents hb)
  replace KHE := Aside0.mk (KHE.out.below flatExtents hb)
  replace HB := Aside0.mk (HB.out.keep hb)
  replace HF := Aside0.mk (HF.out.trans (lowB hb Hbase.out))
  replace Hbase := Aside0.mk (Nat.le_trans Hbase.out hb.size)
  clear hb
  have c0 := HB.out.cell (i := 0) (v := .slice none 0 0) rfl
  have c2 := HB.out.cell (i := 2) (v := .slice AI LI.length nI) rfl
  have c4 := HB.out.cell (i := 4) (v := .slice AS LS.length nS) rfl
  have c6 := HB.out.cell (i := 6) (v := .slice AE LE.length nE) rfl
  have c8 := HB.out.cell (i := 8) (v := .slice none 0 0) rfl
  have c10 := HB.out.cell (i := 10) (v := .slice none 0 0) rfl
  have c12 := HB.out.cell (i := 12) (v := .slice none 0 0) rfl
  go_wp2_with fail
  refine (marked_Spans 0 _ _ _ (by decide) _ _ _ BHS.out.1 BHS.out.2 _ KHS.out).mono ?_
  rintro e w1 ⟨rfl, hb⟩
  clear c0 c2 c4 c6 c8 c10 c12
  replace GHI := Aside0.mk (GHI.out.below flatInts hb)
  replace KHI := Aside0.mk (KHI.out.below flatInts hb)
  replace GHS := Aside0.mk (GHS.out.below flatSpans hb)
  replace KHS := Aside0.mk (KHS.out.below flatSpans hb)
  replace GHE := Aside0.mk (GHE.out.below flatExtents hb)
  replace KHE := Aside0.mk (KHE.out.below flatExtents hb)
  replace HB := Aside0.mk (HB.out.keep hb)
  replace HF := Aside0.mk (HF.out.trans (lowB hb Hbase.out))
  replace Hbase := Aside0.mk (Nat.le_trans Hbase.out hb.size)
  clear hb
  have c0 := HB.out.cell (i := 0) (v := .slice none 0 0) rfl
  have c2 := HB.out.cell (i := 2) (v := .slice AI LI.length nI) rfl
  have c4 := HB.out.cell (i := 4) (v := .slice AS LS.length nS) rfl
  have c6 := HB.out.cell (i := 6) (v := .slice AE LE.length nE) rfl
  have c8 := HB.out.cell (i := 8) (v := .slice none 0 0) rfl
  have c10 := HB.out.cell (i := 10) (v := .slice none 0 0) rfl
  have c12 := HB.out.cell (i := 12) (v := .slice none 0 0) rfl
  go_wp2_with fail
  refine (marked_Extents 72 _ _ _ (by decide) _ _ _ BHE.out.1 BHE.out.2 _ GHE.out).mono ?_
  rintro e w1 ⟨rfl, hb⟩
  clear c0 c2 c4 c6 c8 c10 c12
  replace GHI := Aside0.mk (GHI.out.below flatInts hb)
  replace KHI := Aside0.mk (KHI.out.below flatInts hb)
  replace GHS := Aside0.mk (GHS.out.below flatSpans hb)
  replace KHS := Aside0.mk (KHS.out.below flatSpans hb)
  replace GHE := Aside0.mk (GHE.out.below flatExtents hb)
  replace KHE := Aside0.mk (KHE.out.below flatExtents hb)
  replace HB := Aside0.mk (HB.out.keep hb)
  replace HF := Aside0.mk (HF.out.trans (lowB hb Hbase.out))
  replace Hbase := Aside0.mk (Nat.le_trans Hbase.out hb.size)
  clear hb
  have c0 := HB.out.cell (i := 0) (v := .slice none 0 0) rfl
  have c2 := HB.out.cell (i := 2) (v := .slice AI LI.length nI) rfl
  have c4 := HB.out.cell (i := 4) (v := .slice AS LS.length nS) rfl
  have c6 := HB.out.cell (i := 6) (v := .slice AE LE.length nE) rfl
  have c8 := HB.out.cell (i := 8) (v := .slice none 0 0) rfl
  have c10 := HB.out.cell (i := 10) (v := .slice none 0 0) rfl
  have c12 := HB.out.cell (i := 12) (v := .slice none 0 0) rfl
  go_wp2_with fail
  refine (marked_Extents 0 _ _ _ (by decide) _ _ _ BHE.out.1 BHE.out.2 _ KHE.out).mono ?_
  rintro e w1 ⟨rfl, hb⟩
  clear c0 c2 c4 c6 c8 c10 c12
  replace GHI := Aside0.mk (GHI.out.below flatInts hb)
  replace KHI := Aside0.mk (KHI.out.below flatInts hb)
  replace GHS := Aside0.mk (GHS.out.below flatSpans hb)
  replace KHS := Aside0.mk (KHS.out.below flatSpans hb)
  replace GHE := Aside0.mk (GHE.out.below flatExtents hb)
  replace KHE := Aside0.mk (KHE.out.below flatExtents hb)
  replace HB := Aside0.mk (HB.out.keep hb)
  replace HF := Aside0.mk (HF.out.trans (lowB hb Hbase.out))
  replace Hbase := Aside0.mk (Nat.le_trans Hbase.out hb.size)
  clear hb
  have c0 := HB.out.cell (i := 0) (v := .slice none 0 0) rfl
  have c2 := HB.out.cell (i := 2) (v := .slice AI LI.length nI) rfl
  have c4 := HB.out.cell (i := 4) (v := .slice AS LS.length nS) rfl
  have c6 := HB.out.cell (i := 6) (v := .slice AE LE.length nE) rfl
  have c8 := HB.out.cell (i := 8) (v := .slice none 0 0) rfl
  have c10 := HB.out.cell (i := 10) (v := .slice none 0 0) rfl
  have c12 := HB.out.cell (i := 12) (v := .slice none 0 0) rfl
  go_wp2_with fail
  refine (marked_nil_Shelves _).mono ?_
  rintro e w1 ⟨rfl, rfl⟩
  go_wp2_with fail
  refine (marked_nil_Shelves _).mono ?_
  rintro e w1 ⟨rfl, rfl⟩
  go_wp2_with fail
  refine (marked_nil_Pairs _).mono ?_
  rintro e w1 ⟨rfl, rfl⟩
  go_wp2_with fail
  refine (marked_nil_Pairs _).mono ?_
  rintro e w1 ⟨rfl, rfl⟩
  go_wp2_with fail
  refine (marked_nil_Points _).mono ?_
  rintro e w1 ⟨rfl, rfl⟩
  go_wp2_with fail
  refine (marked_nil_Points _).mono ?_
  rintro e w1 ⟨rfl, rfl⟩
  go_wp2_with fail
  go_ret
  exact ⟨rfl, HF.out⟩
end Go.Proofs.Ytjbimnicnehnaaa.Hand
end
section
namespace Go.Proofs.Ytjbimnicnehnaaa.Hand
open Go.RowKit Go.Proofs.YtjbimnicnehnaaaW.PrintWords Go.Proofs.YtjbimnicnehnaaaW.PrintLast Go.Proofs.YtjbimnicnehnaaaW.PrintMore Go.Proofs.Ytjbimnicnehnaaa.A
set_option linter.unusedVariables false
set_option linter.unusedSimpArgs false
attribute [local go_sem] max2_int min2_int max_two min_two max_three min_three max_four min_four
set_option maxRecDepth 100000 in
theorem copy_Spans (A : Option Addr) (c : Nat) (l : List S24) (hl : l.length ≤ 1000000) (w : World) (hC : Kd.C k24 w A l.length l) :
    Calls Try.prog 45 #[.slice A l.length c] w fun e w' => ∃ u, e = .returned u ∧ Kd.R k24 24 w' w.heap.size (fun _ => True) u l ∧ Below w.heap.size w w' := by
  have HC := Aside0.mk hC
  have Hl := Aside0.mk hl
  clear hC hl
  go_enter Try.func45, Try.ntmps45
  go_wp2_with (at_builtin; refine Kd.R_append_rows k24 (w0 := w) w.heap.size rfl (.const (.slice none 0 0)) (.tmp 3) 31 24 (.agg #[.int .i64 0, .int .i64 0]) 16 rfl Try.underlying31 ginfoSpans rfl (by decide) (by decide) (.slice none 0 0) [] l A l.length c (fun _ => True) (fun _ => False) rfl rfl (Kd.R_nil _ _ _ _ _) HC.out (fun x cs h => by obtain rfl := k24_open h; exact k24_mkM _ _ _ _) (fun _ h => h.elim) (fun _ _ => trivial) (Below.refl _ _) (Nat.le_refl _) (by have := Hl.out; rw [List.length_nil]; omega) ?_; intro v1 w1 hr hb hg hat)
  have HR := Aside0.mk hr
  have HB := Aside0.mk hb
  clear hr hb hg hat
  rw [List.nil_append] at HR
  obtain ⟨A1, c1, hv, _⟩ := Kd.R_reads HR.out
  subst hv
  go_ret
  exact ⟨_, rfl, HR.out, HB.out⟩
set_option maxRecDepth 100000 in
set_option maxHeartbeats 1600000 in
theorem add_Spans (g base : Nat) (VI UI VE UE : Value) (V U : Value) (vs us : List Value) (L : List (List S24)) (v : Value) (l : List S24) (w : World) (hb : Blk w g 47 (bookC VI UI V U VE UE)) (hP : Pile k24 24 31 w base V U vs us L)
    (hv : Kd.R k24 24 w base (fun _ => True) v l) (hl : l.length ≤ 1000000) (hL : L.length < 250) (hnv : ∀ x ∈ vs ++ us, NeRow x v) (hbase : base ≤ w.heap.size) (hg : base ≤ g) :
    Calls Try.prog 23 #[.pointer (some ⟨g, 0, none⟩), v] w fun e w' => e = .returned (.tuple #[]) ∧ ∃ V' U' u, Blk w' g 47 (bookC VI UI V' U' VE UE) ∧ Pile k24 24 31 w' base V' U' (vs ++ [v]) (us ++ [u]) (L ++ [l]) ∧ (∀ k, u.ownBlock = some k → w.heap.size ≤ k) ∧ BookFx 31 g base w w' := by
  obtain ⟨A, n, rfl⟩ := row_slice hP.hV
  obtain ⟨AU, nU, rfl⟩ := row_slice hP.hU
  obtain ⟨Av, cv, rfl, hcv, hCv⟩ := Kd.R_reads hv
  have c4 : w.cell? ⟨g, 4, none⟩ = some (.slice A L.length n) := hb.cell (i := 4) rfl
  have f4 := hb.frozen 4
  have HB := Aside0.mk hb
  have HP := Aside0.mk hP
  have HV := Aside0.mk hv
  have HC := Aside0.mk hCv
  have Hl := Aside0.mk hl
  have Hn := Aside0.mk hnv
  have Hbase := Aside0.mk hbase
  have Hg := Aside0.mk hg
  have HLn := Aside0.mk hL
  have hLi : (L.length : Int) < 250 := by omega
  have hgl : g < w.heap.size := hb.lt
  clear hb hP hv hCv hl hnv hbase hg hcv hL
  go_enter Try.func23, Try.ntmps23
  go_wp2_with (first | ((with_reducible refine gate_builtin (b := .append) (xs := #[.tmp 14, .tmp 16]) rfl ?_); at_builtin; refine print_append_cells (w0 := w) base rfl (.tmp 14) (.tmp 16) 41 31 (.slice none 0 0) 1 24 rfl Try.underlying41 ginfoLSpans rfl (by decide) (by decide) (.slice A L.length n) L.length vs [.slice Av l.length cv] rfl rfl rfl (by intro u hu; rw [List.mem_singleton.1 hu]; rfl) HP.out.hV (Below.refl _ _) Hbase.out (by have := HLn.out; omega) ?_; intro V1 w1 hV1 hb1 hg1 hat1; have HV1 := Aside0.mk hV1; have HW1 := Aside0.mk hb1; have HG1 := Aside0.mk hg1; have HA1 := Aside0.mk hat1; obtain ⟨A1, n1, hV1e⟩ := row_slice hV1; subst hV1e; have HB1 := Aside0.mk (HB.out.grownB hg1 (fun q => own_ne HP.out.hV HB.out.hd (by decide) q.symm)); have c4 : w1.cell? ⟨g, 4, none⟩ = some (.slice A L.length n) := HB1.out.cell (i := 4) rfl; have f4 := HB1.out.frozen 4; clear hV1 hb1 hg1 hat1))
  have hc2 : Kd.C k24 (w1.setCell ⟨g, 4, none⟩ (.slice A1 (L.length + 1) n1)) Av l.length l := (C_of_R (add_R (j := 4) rfl (by decide) (by decide) HP.out.hV HV.out HB1.out HG1.out)).1
  have hb2 : Blk (w1.setCell ⟨g, 4, none⟩ (.slice A1 (L.length + 1) n1)) g 47 (bookC VI UI (.slice A1 (L.length + 1) n1) (.slice AU L.length nU) VE UE) := HB1.out.set_ 4 _
  have c5 : (w1.setCell ⟨g, 4, none⟩ (.slice A1 (L.length + 1) n1)).cell? ⟨g, 5, none⟩ = some (.slice AU L.length nU) := hb2.cell (i := 5) rfl
  have HC2 := Aside0.mk hc2
  have HB2 := Aside0.mk hb2
  generalize hw2 : w1.setCell ⟨g, 4, none⟩ (.slice A1 (L.length + 1) n1) = w2 at c5 HC2 HB2 ⊢
  clear hc2 hb2 c4 f4
  refine start_ (n := 12) (S := fun w' => w'.cell? ⟨g, 5, none⟩ = some (.slice AU L.length nU) ∧ Below w2.heap.size w2 w' ∧ Kd.C k24 w' Av l.length l ∧ Blk w' g 47 (bookC VI UI (.slice A1 (L.length + 1) n1) (.slice AU L.length nU) VE UE)) (ds := [8, 11]) #[false, false, false, false, false, false, false, false, false, false, false, false] (by kernel_rfl) rfl rfl ⟨c5, (below_drew (Below.refl _ _)), (Kd.C_drew HC2.out), HB2.out.drew⟩ (fun hHeld => ?_)
  refine pure_ (i := 0) (N := some 20) (v := ?_) (a' := ?_) #[true, false, false, false, false, false, false, false, false, false, false, false] rfl rfl (by kernel_rfl) (fun _ _ _ h => h) (Or.inl ⟨by rfl, ?_⟩) ?_ ?_
  rotate_left
  · intro w'
    go_simp
    with_reducible rfl
  rotate_left
  · simp only [Act.put, List.setIfInBounds_toArray, List.set_cons_zero, List.set_cons_succ, i64_w, i32_w]
    rfl
  refine pure_ (i := 1) (N := some 21) (v := ?_) (a' := ?_) #[true, true, false, false, false, false, false, false, false, false, false, false] rfl rfl (by kernel_rfl) (fun _ _ _ h => h) (Or.inl ⟨by rfl, ?_⟩) ?_ ?_
  rotate_left
  · intro w'
    go_simp
    with_reducible rfl
  rotate_left
  · simp only [Act.put, List.setIfInBounds_toArray, List.set_cons_zero, List.set_cons_succ, i64_w, i32_w]
    rfl
  refine pure_ (i := 2) (N := some 22) (v := ?_) (a' := ?_) #[true, true, true, false, false, false, false, false, false, false, false, false] rfl rfl (by kernel_rfl) (fun _ _ _ h => h) (Or.inl ⟨by rfl, ?_⟩) ?_ ?_
  rotate_left
  · intro w'
    go_simp
    with_reducible rfl
  rotate_left
  · simp only [Act.put, List.setIfInBounds_toArray, List.set_cons_zero, List.set_cons_succ, i64_w, i32_w]
    rfl
  refine pure_ (i := 3) (N := some 23) (v := ?_) (a' := ?_) #[true, true, true, true, false, false, false, false, false, false, false, false] rfl rfl (by kernel_rfl) (fun _ _ _ h => h) (Or.inl ⟨by rfl, ?_⟩) ?_ ?_
  rotate_left
  · intro w'
    go_simp
    with_reducible rfl
  rotate_left
  · simp only [Act.put, List.setIfInBounds_toArray, List.set_cons_zero, List.set_cons_succ, i64_w, i32_w]
    rfl
  refine pure_ (i := 5) (N := some 25) (v := ?_) (a' := ?_) #[true, true, true, true, false, true, false, false, false, false, false, false] rfl rfl (by kernel_rfl) (fun _ _ _ h => h) (Or.inl ⟨by rfl, ?_⟩) ?_ ?_
  rotate_left
  · intro w'
    go_simp
    with_reducible rfl
  rotate_left
  · simp only [Act.put, List.setIfInBounds_toArray, List.set_cons_zero, List.set_cons_succ, i64_w, i32_w]
    rfl
  refine take_ (i := 4) (N := some 24) (v := ?_) (a' := ?_) #[true, true, true, true, true, true, false, false, false, false, false, false] rfl rfl (by kernel_rfl) (fun _ _ _ h => h) (Or.inl ⟨by rfl, ?_⟩) hHeld ?_ ?_
  rotate_left
  · rintro w' ⟨s0, s1, s2, s3⟩
    go_simp
    with_reducible rfl
  rotate_left
  · simp only [Act.put, List.setIfInBounds_toArray, List.set_cons_zero, List.set_cons_succ, i64_w, i32_w]
    rfl
  refine one_ (i := 6) (N := some 26) #[true, true, true, true, true, true, true, false, false, false, false, false] rfl rfl (by kernel_rfl) (by decide) (fun K hK => ?_)
  refine goes_ Try.func45 (by kernel_rfl) rfl #[.slice Av l.length cv] (by rfl) rfl rfl (by simp only [List.map_toArray, List.map_cons, List.map_nil]; rfl) ?_
  with_reducible refine (copy_Spans Av cv l Hl.out _ hHeld.2.2.1).mono ?_
  rintro e w3 ⟨u, rfl, hu, hb⟩
  refine ⟨_, rfl, ?_⟩
  have HU := Aside0.mk hu
  obtain ⟨A3, c3, hue, _⟩ := Kd.R_reads hu
  subst hue
  have hb3 := below_step hHeld.2.1 hb
  have hu3 := (by rw [← hw2] at hb3; exact add_mid (by decide) HP.out HB1.out HG1.out hb3 : w3.ownsRow base 31 1 (.slice AU L.length nU) L.length us)
  have HU3 := Aside0.mk hu3
  have HB3 := Aside0.mk hb3
  have HK3 := Aside0.mk (hHeld.2.2.2.keep hb)
  clear hu hu3 hb3
  refine hK.out _ _ ⟨(keepP hb hHeld.1), (below_step hHeld.2.1 hb), (Kd.C_below hHeld.2.2.1 hb), ((hHeld.2.2.2).keep hb)⟩ (fun hHeld => ?_)
  clear hK K
  refine norm_ (a' := ?_) ?_ ?_
  rotate_left
  · show Act.put _ (some 26) _ = _
    simp only [Act.put, List.setIfInBounds_toArray, List.set_cons_zero, List.set_cons_succ, i64_w, i32_w]
    rfl
  refine one_ (i := 7) (N := some 27) #[true, true, true, true, true, true, true, true, false, false, false, false] rfl rfl (by kernel_rfl) (by decide) (fun K hK => ?_)
  refine value_ (w1 := ?_) (v := ?_) (by rfl) rfl ?_ ?_
  rotate_left 2
  · go_simp
    constructor
    · rfl
    · rfl
  refine hK.out _ _ ⟨(keep (below_alloc (Below.refl _ _) _) hHeld.1), (below_alloc hHeld.2.1 _), (Kd.C_below hHeld.2.2.1 (below_alloc (Below.refl _ _) _)), ((hHeld.2.2.2).alloc _)⟩ (fun hHeld => ?_)
  clear hK K
  refine norm_ (a' := ?_) ?_ ?_
  rotate_left
  · show Act.put _ (some 27) _ = _
    simp only [Act.put, List.setIfInBounds_toArray, List.set_cons_zero, List.set_cons_succ, i64_w, i32_w]
    rfl
  refine last_ (i := 8) (N := some 28) #[true, true, true, true, true, true, true, true, true, false, false, false] rfl rfl (by kernel_rfl) (by decide) (fun K hK => ?_)
  refine step_append_cells (w0 := w3) base (by rfl) (.tmp 24) (.tmp 27) 41 31 (.slice none 0 0) 1 24 (by rfl) Try.underlying41 ginfoLSpans (by rfl) (by decide) (by decide) (.slice AU L.length nU) L.length us [.slice A3 l.length c3] (by rfl) (by rfl) (by rfl) (by intro u hu; rw [List.mem_singleton.1 hu]; rfl) HU3.out (Below.refl _ _) (by have h1 := HB3.out.size; have h2 := HG1.out.size; have h3 := Hbase.out; have h4 : w2.heap.size = w1.heap.size := (by rw [← hw2]; simp [World.setCell]); omega) (by have := HLn.out; omega) ?_
  intro U1 w5 hU5 hW5 hG5 hA5
  obtain ⟨A5, n5, hU1e⟩ := row_slice hU5
  subst hU1e
  have HB5 := Aside0.mk (HK3.out.grownB hG5 (fun q => own_ne HU3.out HK3.out.hd (by decide) q.symm))
  have c5 : w5.cell? ⟨g, 5, none⟩ = some (.slice AU L.length nU) := HB5.out.cell (i := 5) rfl
  have f5 := HB5.out.frozen 5
  have HU5 := Aside0.mk hU5
  have HW5 := Aside0.mk hW5
  have HG5 := Aside0.mk hG5
  have HA5 := Aside0.mk hA5
  clear hU5 hW5 hG5 hA5
  refine hK.out _ _ ?_
  clear hK K
  refine norm_ (a' := ?_) ?_ ?_
  rotate_left
  · show Act.put _ (some 28) _ = _
    simp only [Act.put, List.setIfInBounds_toArray, List.set_cons_zero, List.set_cons_succ, i64_w, i32_w]
    rfl
  refine pure_ (i := 9) (N := some 29) (v := ?_) (a' := ?_) #[true, true, true, true, true, true, true, true, true, true, false, false] rfl rfl (by kernel_rfl) (fun _ _ _ h => h) (Or.inl ⟨by rfl, ?_⟩) ?_ ?_
  rotate_left
  · intro w'
    go_simp
    with_reducible rfl
  rotate_left
  · simp only [Act.put, List.setIfInBounds_toArray, List.set_cons_zero, List.set_cons_succ, i64_w, i32_w]
    rfl
  refine pure_ (i := 10) (N := some 30) (v := ?_) (a' := ?_) #[true, true, true, true, true, true, true, true, true, true, true, false] rfl rfl (by kernel_rfl) (fun _ _ _ h => h) (Or.inl ⟨by rfl, ?_⟩) ?_ ?_
  rotate_left
  · intro w'
    go_simp
    with_reducible rfl
  rotate_left
  · simp only [Act.put, List.setIfInBounds_toArray, List.set_cons_zero, List.set_cons_succ, i64_w, i32_w]
    rfl
  refine last_ (i := 11) (N := none) #[true, true, true, true, true, true, true, true, true, true, true, true] rfl rfl (by kernel_rfl) (by decide) (fun K hK => ?_)
  refine skip_ (w1 := ?_) (by rfl) rfl ?_ ?_
  rotate_left
  · go_simp
    rfl
  refine hK.out _ _ ?_
  clear hK K
  refine done_ (by kernel_rfl) ?_
  skip
  go_end0
  subst hw2
  obtain ⟨r1, r2, r3⟩ := add_done (tB := 47) (j1 := 4) (j2 := 5) rfl (by decide) (by decide) (by decide) HP.out HV.out Hn.out Hbase.out Hg.out hgl HB1.out HV1.out HW1.out HG1.out HA1.out HB3.out HU.out HB5.out HU5.out HW5.out HG5.out HA5.out
  exact ⟨rfl, _, _, _, HB5.out.set_ 5 _, r1, r2, r3⟩
end Go.Proofs.Ytjbimnicnehnaaa.Hand
end
section
namespace Go.Proofs.Ytjbimnicnehnaaa.Hand
set_option linter.unusedVariables false
abbrev o : Bool := true
abbrev z : Bool := false
theorem sA {α : Type} (l : List α) (i : Nat) (a : α) : l.toArray.setIfInBounds i a = (l.set i a).toArray := List.setIfInBounds_toArray l i a
theorem sB {α : Type} (x a : α) (l : List α) : (x :: l).set 0 a = a :: l := List.set_cons_zero
theorem sC {α : Type} (x a : α) (l : List α) (i : Nat) : (x :: l).set (i + 1) a = x :: l.set i a := List.set_cons_succ
end Go.Proofs.Ytjbimnicnehnaaa.Hand
end
