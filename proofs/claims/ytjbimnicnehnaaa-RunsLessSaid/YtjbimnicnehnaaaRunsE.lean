/- Sets of blocks as the program keeps them (runs): cut, walked. -/
import Derived.Test.YtjbimnicnehnaaaRunsD
import Derived.Test.YtjbimnicnehnaaaAx0
import Derived.Test.YtjbimnicnehnaaaAx7
import Derived.Test.YtjbimnicnehnaaaAx8
namespace Go.Proofs.Ytjbimnicnehnaaa.Hand
open Go.RowKit Go.Proofs.YtjbimnicnehnaaaW.PrintWords Go.Proofs.YtjbimnicnehnaaaW.PrintLast Go.Proofs.YtjbimnicnehnaaaW.PrintMore Go.Proofs.Ytjbimnicnehnaaa.A
set_option linter.unusedVariables false
set_option linter.unusedSimpArgs false
attribute [local go_sem] max2_int min2_int max_two min_two max_three min_three max_four min_four
theorem cutV_snoc (l : List S24) (s : S24) (j : Nat) (h : j < l.length) : cutV (l.take (j + 1)) s = cutV (l.take j) s ++ lessV l[j].f0 l[j].f1 s.f0 s.f1 := by
  unfold cutV
  rw [List.take_succ_eq_append_getElem h, List.flatMap_append]; simp
theorem lessV_length (a m b n : Int) : (lessV a m b n).length ≤ 2 := by
  unfold lessV
  split
  · split
    · split <;> split <;> simp
    · simp
  · simp
theorem cutV_length {l : List S24} {s : S24} (hs : wh s.f0 s.f1) (h : Tidy 0 l) : (cutV l s).length ≤ 65 := by
  have := (cutV_spec hs (Int.le_refl _) h).1.length (by decide); omega
set_option maxRecDepth 100000 in
set_option maxHeartbeats 1600000 in
theorem runs_cut (base g : Nat) (l ls : List S24) (A : Option Addr) (c : Nat) (w : World) (hT : Tidy 0 l) (h : RunsAt w base g l) (hbase : base ≤ w.heap.size) (hC : Kd.C k24 w A ls.length ls) (hne : Off A ls.length g) :
    Calls Try.prog 36 #[ptrR g, .slice A ls.length c] w fun e w' => e = .returned (.int .i64 (sumN l - sumN (cutAllV l ls))) ∧ RunsAt w' base g (cutAllV l ls) ∧ Only w w' g := by
  have hln : ls.length ≤ 9223372036854775807 := by have := hC.2.1; unfold maxLen at this; omega
  have HT := Aside0.mk hT
  have H := Aside0.mk h
  have HC := Aside0.mk hC
  have Hne := Aside0.mk hne
  have Hbase := Aside0.mk hbase
  obtain ⟨s0, s1⟩ := hT.sum (by decide)
  clear h hT hC hne hbase
  go_enter Try.func36, Try.ntmps36
  go_wp2_with fail
  refine (runs_count base g l _ HT.out H.out).mono ?_
  rintro e w1 ⟨rfl, hB⟩
  have HO1 : Aside0 (Only w w1 g) := ⟨only_below (only_refl _ _) hB⟩
  have HR1 := Aside0.mk (H.out.keep hB)
  clear hB
  generalize hz : sumN l = z at *
  go_wp2_with fail
  go_loopg [17] ls.length (fun kq v wq => ∃ i : Nat, i + kq = ls.length ∧ v = .int .i64 (i : Int) ∧ Aside0 (Only w wq g) ∧ Aside0 (RunsAt wq base g (cutAllV l (ls.take i))))
  case atStart => exact ⟨0, by omega, rfl, HO1, HR1⟩
  case round =>
    clear HO1 HR1
    obtain ⟨i, hi, rfl, HO, HR⟩ := hrel
    have HTi := Aside0.mk (cutAllV_spec (ls.take i) l HT.out).1
    by_cases hlt : i < ls.length
    · obtain ⟨ad, e1, x0, x1⟩ := at_T24 (C_only HC.out HO.out Hne.out) (i : Int) (by omega) (by omega)
      subst e1
      rw [Int.toNat_natCast, rd_get ls i hlt] at x0 x1
      have hlt' : (i : Int) < (ls.length : Int) := by omega
      have hone : Aside0 (cutAllV l (ls.take (i + 1)) = cutOneV (cutAllV l (ls.take i)) ls[i]) := ⟨foldl_snoc cutOneV l ls i hlt⟩
      generalize ls[i] = X at *
      generalize cutAllV l (ls.take i) = cur at *
      obtain ⟨F, M⟩ := X
      simp only at x0 x1
      have Hv := Aside0.mk (valid_eq F M 64 (by decide))
      obtain ⟨kk, rfl⟩ : ∃ z, gk = z + 1 := ⟨gk - 1, by omega⟩
      by_cases hw : wh F M
      · have Hv2 : Aside0 (span_Valid.f F M 64 = some true) := ⟨by rw [Hv.out, decide_eq_true ⟨hw, hw.2.2⟩]⟩
        have hone2 : Aside0 (cutAllV l (ls.take (i + 1)) = cutV cur ⟨F, M⟩) := ⟨by rw [hone.out]; unfold cutOneV; rw [if_pos hw]⟩
        have Hw := Aside0.mk hw
        have hcl := HTi.out.length (by decide)
        clear hw hone Hv
        go_wp2_with fail
        refine (span_Valid.calls F M 64 true _ Hv2.out).mono ?_
        rintro e w2 ⟨rfl, hB⟩
        have HX2 : Aside0 (Blk w2 wr.heap.size 24 #[.int .i64 F, .int .i64 M]) := ⟨(Blk.new wr _ _).keep hB⟩
        have HO2 : Aside0 (Only w w2 g) := ⟨only_below (only_alloc HO.out _) hB⟩
        obtain ⟨v0, hb0, ho0⟩ := (HR.out.keep (below_alloc (Below.refl _ _) _)).keep hB
        obtain ⟨A0, k0, rfl, _, hC0, _⟩ := ho0.reads
        have HG2 := Aside0.mk hb0
        have HC2 := Aside0.mk hC0
        have c1 := HG2.out.cell (i := 0) rfl
        clear hB x0 x1 hb0 ho0 hC0
        go_wp2_with fail
        go_loopg [8, 29] cur.length (fun kq u v wq => ∃ j : Nat, j + kq = cur.length ∧ v = .int .i64 (j : Int) ∧ Aside0 (Below w2.heap.size w2 wq) ∧ Aside0 (ORow wq w2.heap.size u (cutV (cur.take j) ⟨F, M⟩)))
        case atStart => exact ⟨0, by omega, rfl, ⟨Below.refl _ _⟩, ⟨ORow.nil _ _⟩⟩
        case round =>
          clear c1
          obtain ⟨j, hj, rfl, HB, HU⟩ := hrel
          by_cases hjl : j < cur.length
          · obtain ⟨ad', e1, y0, y1⟩ := at_T24 (Kd.C_below HC2.out HB.out) (j : Int) (by omega) (by omega)
            subst e1
            rw [Int.toNat_natCast, rd_get cur j hjl] at y0 y1
            have hlt2 : (j : Int) < (cur.length : Int) := by omega
            have hstep := Aside0.mk (cutV_snoc cur ⟨F, M⟩ j hjl)
            have hcl2 := Aside0.mk (cutV_length (s := ⟨F, M⟩) Hw.out (HTi.out.take j))
            have Hless := Aside0.mk (less_eq cur[j].f0 cur[j].f1 F M 0)
            have hll := Aside0.mk (lessV_length cur[j].f0 cur[j].f1 F M)
            generalize cur[j] = Y at *
            obtain ⟨G, N⟩ := Y
            simp only at y0 y1 hstep Hless hll
            generalize cutV (cur.take j) ⟨F, M⟩ = o at *
            generalize lessV G N F M = ll at *
            obtain ⟨jj, rfl⟩ : ∃ z, gk = z + 1 := ⟨gk - 1, by omega⟩
            have HXw := Aside0.mk (HX2.out.below HB.out HX2.out.lt)
            have d0 := HXw.out.cell (i := 0) rfl
            have d1 := HXw.out.cell (i := 1) rfl
            have d2 := HXw.out.lt
            obtain ⟨U, ku, rfl, _, _, _⟩ := HU.out.reads
            go_wp2_with fail
            refine (span_Less.calls 1 G N F M ll _ Hless.out).mono ?_
            rintro e w3 ⟨v3, rfl, hr, hB⟩
            have ho3 := ORow.of_R hr
            have HB3 : Aside0 (Below w2.heap.size w2 w3) := ⟨below_step (below_alloc HB.out _) hB⟩
            have HU3 := Aside0.mk (ORow.below (own_alloc HU.out _) hB)
            obtain ⟨A3, k3, hv3, _, hC3, _⟩ := ho3.reads
            subst hv3
            have HC3 := Aside0.mk hC3
            clear hB y0 y1 d0 d1 d2 hC3 ho3 hr HB HU HXw
            go_wp2_with ((with_reducible refine gate_builtin (b := .append) (xs := #[.tmp 33, .tmp 36]) rfl ?_); at_builtin; refine Kd.R_append_rows k24 (Rr := k24.K w3) (w0 := w2) w2.heap.size rfl (.tmp 33) (.tmp 36) 31 24 (.agg #[(.int .i64 0), (.int .i64 0)]) 16 rfl Try.underlying31 info24' rfl (by decide) (by decide) (.slice U o.length ku) o ll A3 ll.length k3 (fun _ => True) (fun _ => False) rfl rfl HU3.out.to_R HC3.out ?aK (fun _ h => h.elim) (fun _ _ => trivial) HB3.out HB3.out.size ?aL ?_; (case aK => (intro x cs hk; rw [k24_open hk]; exact k24_mkM _ _ _ _)); (case aL => (have := hcl2.out; have := hll.out; omega)); intro v4 w4 ho hb hg hat; have HU4 := Aside0.mk (ORow.of_R ho); have HB4 := Aside0.mk hb; clear ho hb hg hat)
            go_roundg jj
            case measure => omega
            case rel => exact ⟨j + 1, by omega, by go_num, HB4, by rw [hstep.out]; exact HU4⟩
          · have hlt2 : ¬ (j : Int) < (cur.length : Int) := by omega
            obtain rfl : j = cur.length := by omega
            rw [List.take_length] at HU
            have HGw := Aside0.mk (HG2.out.below HB.out HG2.out.lt)
            have c1 := HGw.out.cell (i := 0) rfl
            have f1 := HGw.out.frozen 0
            have Hgl : Aside0 (g < w2.heap.size) := ⟨HG2.out.lt⟩
            obtain ⟨U, ku, rfl, _, _, _⟩ := HU.out.reads
            have HO4 := Aside0.mk (only_below HO2.out HB.out)
            go_wp2_with fail
            go_roundg kk
            case measure => omega
            case rel =>
              refine ⟨i + 1, by omega, by go_num, ⟨only_set HO4.out 0 _⟩, ⟨_, HGw.out.set_ 0 _, ?_⟩⟩
              rw [hone2.out]
              exact (HU.out.far (p := ⟨g, 0, none⟩) (HU.out.ne_old Hgl.out) _).lower (by have := HO2.out.size; have := Hbase.out; omega)
      · have Hv2 : Aside0 (span_Valid.f F M 64 = some false) := ⟨by rw [Hv.out, decide_eq_false (fun h => hw h.1)]⟩
        have hone2 : Aside0 (cutAllV l (ls.take (i + 1)) = cur) := ⟨by rw [hone.out]; unfold cutOneV; rw [if_neg hw]⟩
        clear hw hone Hv
        go_wp2_with fail
        refine (span_Valid.calls F M 64 false _ Hv2.out).mono ?_
        rintro e w2 ⟨rfl, hB⟩
        have HO2 : Aside0 (Only w w2 g) := ⟨only_below (only_alloc HO.out _) hB⟩
        have HR2 : Aside0 (RunsAt w2 base g cur) := ⟨(HR.out.keep (below_alloc (Below.refl _ _) _)).keep hB⟩
        clear hB x0 x1
        go_wp2_with fail
        go_roundg kk
        case measure => omega
        case rel => exact ⟨i + 1, by omega, by go_num, HO2, by rw [hone2.out]; exact HR2⟩
    · have hlt' : ¬ (i : Int) < (ls.length : Int) := by omega
      obtain rfl : i = ls.length := by omega
      rw [List.take_length] at HR HTi
      go_wp2_with fail
      refine (runs_count base g _ _ HTi.out HR.out).mono ?_
      rintro e w2 ⟨rfl, hB⟩
      obtain ⟨t0, t1⟩ := HTi.out.sum (by decide)
      have HR2 := Aside0.mk (HR.out.keep hB)
      have HO2 : Aside0 (Only w w2 g) := ⟨only_below HO.out hB⟩
      clear hB
      generalize hy : sumN (cutAllV l ls) = y at *
      go_wp2_with fail
      go_ret
      exact ⟨by rw [hz, hy]; rfl, HR2.out, HO2.out⟩
end Go.Proofs.Ytjbimnicnehnaaa.Hand
