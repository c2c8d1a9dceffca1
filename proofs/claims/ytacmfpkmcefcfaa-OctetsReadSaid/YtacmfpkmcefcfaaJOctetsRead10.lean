/- Parts of the proof for OctetsRead: RefIn, RefE, WaOctetsRead. -/
import Derived.Test.YtacmfpkmcefcfaaJOctetsRead6
import Derived.Test.YtacmfpkmcefcfaaJOctetsRead7
import Derived.Test.YtacmfpkmcefcfaaJOctetsRead4
import Derived.Test.YtacmfpkmcefcfaaJOctetsRead5
import Derived.Test.YtacmfpkmcefcfaaJOctetsRead9
section
namespace Go.Proofs.Ytacmfpkmcefcfaa.Hand
open Go.RowKit Go.Proofs.YtacmfpkmcefcfaaW.PrintWords Go.Proofs.YtacmfpkmcefcfaaW.PrintLast Go.Proofs.YtacmfpkmcefcfaaW.PrintMore Go.Proofs.Ytacmfpkmcefcfaa.A Go.Proofs.Ytacmfpkmcefcfaa.Maps Go.Proofs.Ytacmfpkmcefcfaa.ExtP
set_option linter.unusedVariables false
set_option linter.unusedSimpArgs false
attribute [local go_sem] max2_int min2_int max_two min_two max_three min_three max_four min_four
/-- The reference's In. -/
def RefAt (w : World) (base g : Nat) (s : ByteArray) (b : Bool) : Prop := Blk w g 50 #[.string s, .bool b] ∧ base ≤ g
theorem RefAt.keep {w w1 : World} {base g : Nat} {s : ByteArray} {b : Bool} (h : RefAt w base g s b) (hb : Below w.heap.size w w1) : RefAt w1 base g s b := ⟨h.1.keep hb, h.2⟩
theorem leV_lt : ∀ l : List Int, (∀ x ∈ l, 0 ≤ x ∧ x < 256) → leV l < 256 ^ l.length
  | [], _ => by simp [leV]
  | x :: l, h => by
    have h1 := h x (by simp)
    have h2 := leV_lt l (fun y hy => h y (by simp [hy]))
    unfold leV
    rw [List.length_cons, Int.pow_succ]
    omega
theorem rvalue_l0 (s : ByteArray) (hs : s.size ≤ 4) : ∀ (d k : Nat) (v : Int), d ≤ s.size → d < k → v = leV ((bytesOf s).drop d) → emulsionref1_Value.l0 k s v ((d : Int) - 1) = some (leV (bytesOf s))
  | 0, k, v, hd, hk, hv => by
    obtain ⟨k, rfl⟩ : ∃ m, k = m + 1 := ⟨k - 1, by omega⟩
    simp only [emulsionref1_Value.l0]
    rw [if_neg (by omega), hv, List.drop_zero]
  | d + 1, k, v, hd, hk, hv => by
    obtain ⟨k, rfl⟩ : ∃ m, k = m + 1 := ⟨k - 1, by omega⟩
    simp only [emulsionref1_Value.l0]
    have e : ((d + 1 : Nat) : Int) - 1 = (d : Int) := by omega
    have hl : d < (bytesOf s).length := by rw [bytesOf_length]; omega
    have hdr : (bytesOf s).drop d = bt s (d : Int) :: (bytesOf s).drop (d + 1) := by rw [← bytes_get s d hl]; exact List.drop_eq_getElem_cons hl
    have hb := bt_range s (d : Int)
    have h0 : 0 ≤ v := by rw [hv]; exact leV_in _ (fun x hx => bytes_in s x (List.mem_of_mem_drop hx))
    have h1 : v < 256 ^ 3 := by
      rw [hv]
      have h2 := leV_lt ((bytesOf s).drop (d + 1)) (fun x hx => bytes_in s x (List.mem_of_mem_drop hx))
      have h3 : ((bytesOf s).drop (d + 1)).length ≤ 3 := by rw [List.length_drop, bytesOf_length]; omega
      generalize ((bytesOf s).drop (d + 1)).length = q at *
      rcases (show q = 0 ∨ q = 1 ∨ q = 2 ∨ q = 3 by omega) with rfl | rfl | rfl | rfl <;> omega
    have h1' : v < 16777216 := h1
    rw [e, if_pos (by omega), if_pos (by omega), if_pos (by omega)]
    have hw : wrap64 (wrap64 (v * 256) + wrap64 (bt s (d : Int))) = v * 256 + bt s (d : Int) := by unfold wrap64; omega
    have hw2 : wrap64 ((d : Int) - 1) = (d : Int) - 1 := by unfold wrap64; omega
    rw [hw, hw2]
    refine rvalue_l0 s hs d k _ (by omega) (by omega) ?_
    rw [hdr]
    unfold leV
    rw [hv]
    omega
theorem rvalue (s : ByteArray) (hs : s.size ≤ 4) (k : Nat) (hk : 5 < k) : emulsionref1_Value.f k s = some (leV (bytesOf s)) := by
  unfold emulsionref1_Value.f
  have : wrap64 ((s.size : Int) - 1) = (s.size : Int) - 1 := by unfold wrap64; omega
  rw [this]
  exact rvalue_l0 s hs s.size k 0 (Nat.le_refl _) (by omega) (by rw [List.drop_of_length_le (by rw [bytesOf_length]; omega)]; rfl)
/-- What the reference's state is beside the code's. -/
def Like (s sr : ByteArray) (b : Bool) : Prop := b = false → sr = s
theorem rnum_rd (n : Int) (s sr : ByteArray) (b : Bool) (hl : Like s sr b) : ∃ sr', emulsionref1_In_Num.f 6 sr b n = some ((rdNum n s b).1, sr', (rdNum n s b).2.2) ∧ Like (rdNum n s b).2.1 sr' (rdNum n s b).2.2 := by
  unfold emulsionref1_In_Num.f rdNum
  by_cases hb : b = true
  · rw [if_pos hb, if_pos hb]
    exact ⟨sr, rfl, fun h => by cases h⟩
  have hb' : b = false := by simpa using hb
  subst hb'
  obtain rfl := hl rfl
  rw [if_neg hb, if_neg hb]
  by_cases h1 : n < 1
  · rw [if_pos h1, if_pos h1]
    exact ⟨sr, rfl, fun h => by cases h⟩
  rw [if_neg h1, if_neg h1]
  by_cases h4 : 4 < n
  · rw [if_pos (show n > 4 from h4), if_pos h4]
    exact ⟨sr, rfl, fun h => by cases h⟩
  rw [if_neg (show ¬ n > 4 from h4), if_neg h4]
  by_cases h5 : (sr.size : Int) < n
  · rw [if_pos h5, if_pos h5]
    exact ⟨sr, rfl, fun h => by cases h⟩
  rw [if_neg h5, if_neg h5, if_pos (by omega), if_pos (by omega), rvalue _ (by rw [ByteArray.size_extract]; omega) 6 (by omega), Option.bind_some]
  exact ⟨_, rfl, fun _ => rfl⟩
theorem rtext_rd (s sr : ByteArray) (b : Bool) (hl : Like s sr b) : ∃ sr', emulsionref1_In_Text.f 6 sr b = some ((rdText s b).1, sr', (rdText s b).2.2) ∧ Like (rdText s b).2.1 sr' (rdText s b).2.2 := by
  obtain ⟨s1, h1, h2⟩ := rnum_rd 1 s sr b hl
  have h0 := rdNum_nonneg 1 s b
  unfold emulsionref1_In_Text.f rdText
  rw [h1, Option.bind_some]
  generalize rdNum 1 s b = X at *
  obtain ⟨n, s2, b2⟩ := X
  simp only at h1 h2 h0 ⊢
  unfold rdTake
  by_cases hb : b2 = true
  · rw [if_pos hb, if_pos hb]
    exact ⟨s1, rfl, fun h => by cases h⟩
  have hb' : b2 = false := by simpa using hb
  subst hb'
  obtain rfl := h2 rfl
  rw [if_neg hb, if_neg hb]
  by_cases h5 : (s1.size : Int) < n
  · rw [if_pos h5, if_pos h5]
    exact ⟨s1, rfl, fun h => by cases h⟩
  rw [if_neg h5, if_neg h5, if_pos h0, if_pos (by omega)]
  exact ⟨_, rfl, fun _ => rfl⟩
theorem rin_num (n : Int) (w0 : World) (g : Nat) (s sr : ByteArray) (b : Bool) (w : World) (hB : Below w0.heap.size w0 w) (h : RefAt w w0.heap.size g sr b) (hl : Like s sr b) :
    Calls Try.prog 29 #[.pointer (some ⟨g, 0, none⟩), .int .i64 n] w fun e w' => e = .returned (.int .i64 (rdNum n s b).1) ∧ (∃ sr', RefAt w' w0.heap.size g sr' (rdNum n s b).2.2 ∧ Like (rdNum n s b).2.1 sr' (rdNum n s b).2.2) ∧ Only w w' g := by
  obtain ⟨sr', h1, h2⟩ := rnum_rd n s sr b hl
  exact (emulsionref1_In_Num.calls 6 g sr b n _ _ _ w0 w ⟨h.1, h.2⟩ hB h1).mono fun e w' ⟨h1, h3, h4, h5⟩ => ⟨h1, ⟨sr', ⟨h3.1, h3.2⟩, h2⟩, only_of hB h4 h5⟩
theorem rin_text (w0 : World) (g : Nat) (s sr : ByteArray) (b : Bool) (w : World) (hB : Below w0.heap.size w0 w) (h : RefAt w w0.heap.size g sr b) (hl : Like s sr b) :
    Calls Try.prog 31 #[.pointer (some ⟨g, 0, none⟩)] w fun e w' => e = .returned (.string (rdText s b).1) ∧ (∃ sr', RefAt w' w0.heap.size g sr' (rdText s b).2.2 ∧ Like (rdText s b).2.1 sr' (rdText s b).2.2) ∧ Only w w' g := by
  obtain ⟨sr', h1, h2⟩ := rtext_rd s sr b hl
  exact (emulsionref1_In_Text.calls 6 g sr b _ _ _ w0 w ⟨h.1, h.2⟩ hB h1).mono fun e w' ⟨h1, h3, h4, h5⟩ => ⟨h1, ⟨sr', ⟨h3.1, h3.2⟩, h2⟩, only_of hB h4 h5⟩
end Go.Proofs.Ytacmfpkmcefcfaa.Hand
end
section
namespace Go.Proofs.Ytacmfpkmcefcfaa.Hand
open Go.RowKit Go.Proofs.YtacmfpkmcefcfaaW.PrintWords Go.Proofs.YtacmfpkmcefcfaaW.PrintLast Go.Proofs.YtacmfpkmcefcfaaW.PrintMore Go.Proofs.Ytacmfpkmcefcfaa.A Go.Proofs.Ytacmfpkmcefcfaa.ExtP
set_option linter.unusedVariables false
set_option linter.unusedSimpArgs false
attribute [local go_sem] max2_int min2_int max_two min_two max_three min_three max_four min_four
theorem rdNum_bad (n : Int) (s : ByteArray) : rdNum n s true = (0, nix, true) := by unfold rdNum; rw [if_pos rfl]
theorem rdE_bad (s : ByteArray) : (rdE s true).2.2 = true := by
  unfold rdE
  rw [rdNum_bad]
  simp only
  rw [rdNum_bad]
  simp only
  rw [rdNum_bad]
theorem rdEs_bad (s : ByteArray) (b : Bool) (k : Nat) (h : (rdEs k s b).2.2 = true) : ∀ j, (rdEs (k + j) s b).2.2 = true
  | 0 => h
  | j + 1 => by
    have ih := rdEs_bad s b k h j
    rw [show k + (j + 1) = (k + j) + 1 by omega]
    unfold rdEs
    simp only
    rw [ih]
    exact rdE_bad _
theorem rin_numV (n v : Int) (s' : ByteArray) (b' : Bool) (w0 : World) (g : Nat) (s sr : ByteArray) (b : Bool) (w : World) (hR : rdNum n s b = (v, s', b')) (hB : Below w0.heap.size w0 w) (h : RefAt w w0.heap.size g sr b) (hl : Like s sr b) :
    Calls Try.prog 29 #[.pointer (some ⟨g, 0, none⟩), .int .i64 n] w fun e w' => e = .returned (.int .i64 v) ∧ (∃ sr', RefAt w' w0.heap.size g sr' b' ∧ Like s' sr' b') ∧ Only w w' g := by
  have := rin_num n w0 g s sr b w hB h hl
  rw [hR] at this
  exact this
theorem Blk.onlyF {w w1 : World} {b0 g g' t : Nat} {cs : Array Value} {s : ByteArray} {b : Bool} (hv : Blk w g' t cs) (ho : Only w w1 g) (hi : RefAt w b0 g s b) (ht : t ≠ 50) : Blk w1 g' t cs :=
  hv.only ho (fun e => by
    subst e
    have h1 := hv.hd
    rw [hi.1.hd] at h1
    injection h1 with h1
    injection h1 with _ h1
    exact ht h1.symm)
theorem R_onlyF {w w1 : World} {base b0 g : Nat} {ok : Nat → Prop} {v : Value} {l : List S96} {s : ByteArray} {b : Bool} (hv : Kd.R k96 96 w base ok v l) (ho : Only w w1 g) (hi : RefAt w b0 g s b) : Kd.R k96 96 w1 base ok v l :=
  Kd.R_mono (Kd.R_grown (Kd.R_types hv hi.1.hd (by decide)) ho (fun k hk => by intro e; injection e with e; exact hk.2 e)) (fun _ hk => hk.1)
set_option maxRecDepth 100000 in
set_option maxHeartbeats 1600000 in
theorem rin_extents' (v : Bool) (lo : List S96) (so : ByteArray) (bo : Bool) (w0 : World) (g : Nat) (s sr : ByteArray) (b : Bool) (w : World) (hR : rdExt v s b = (lo, so, bo)) (hB : Below w0.heap.size w0 w) (h : RefAt w w0.heap.size g sr b) (hl : Like s sr b) (hV : (rdEs (rdNum 1 s b).1.toNat (rdNum 1 s b).2.1 (rdNum 1 s b).2.2).2.2 = false → tidyB 64 (rdEs (rdNum 1 s b).1.toNat (rdNum 1 s b).2.1 (rdNum 1 s b).2.2).1 = v) :
    Calls Try.prog 35 #[.pointer (some ⟨g, 0, none⟩)] w fun e w' => ∃ u, e = .returned u ∧ ERow w' w.heap.size u lo ∧ (∃ sr', RefAt w' w0.heap.size g sr' bo ∧ Like so sr' bo) ∧ Only w w' g := by
  have HW0 := Aside0.mk hB.size
  have HB := Aside0.mk hB
  have HI := Aside0.mk h
  have HLk := Aside0.mk hl
  have HN := Aside0.mk (rdNum_nonneg 1 s b)
  have HN2 := Aside0.mk (rdNum1_lt s b)
  have HV := Aside0.mk hV
  have HRE := Aside0.mk hR
  unfold rdExt at HRE
  obtain ⟨⟨n, s1, b1⟩, hX⟩ : ∃ X : Int × ByteArray × Bool, rdNum 1 s b = X := ⟨_, rfl⟩
  rw [hX] at HN HN2 HV HRE
  simp only at HN HN2 HV HRE
  have HX := Aside0.mk hX
  obtain ⟨N, hNn⟩ : ∃ N : Nat, n = (N : Int) := ⟨n.toNat, by have := HN.out; omega⟩
  subst hNn
  rw [Int.toNat_natCast] at HV HRE
  have hN255 : (N : Int) < 256 := HN2.out
  clear hB h hV hX hR hl
  go_enter Try.func35, Try.ntmps35
  go_wp2_with fail
  refine (rin_numV 1 (N : Int) s1 b1 w0 g s sr b w HX.out HB.out HI.out HLk.out).mono ?_
  rintro e w1 ⟨rfl, ⟨sr1, hi, hlk⟩, ho⟩
  replace HB := Aside0.mk (below_only HB.out ho HI.out.2)
  replace HI := Aside0.mk hi
  replace HLk := Aside0.mk hlk
  have HO := Aside0.mk ho
  clear hi ho hlk HN HN2
  go_wp2_with fail
  go_loopg [4, 5] N (fun kq v4 v5 wz => ∃ (i : Nat) (A : Option Addr) (c : Nat) (l : List S96) (si sri : ByteArray) (bi : Bool), i + kq = N ∧ v5 = .int .i64 (i : Int) ∧ v4 = .slice A i c ∧ Aside0 (l.length = i) ∧ Aside0 (rdEs i s1 b1 = (l, si, bi)) ∧ Aside0 (ERow wz w.heap.size (.slice A i c) l) ∧ Aside0 (RefAt wz w0.heap.size g sri bi) ∧ Aside0 (Like si sri bi) ∧ Aside0 (Below w0.heap.size w0 wz) ∧ Aside0 (Only w wz g))
  case atStart => exact ⟨0, none, 0, [], s1, sr1, b1, by omega, rfl, rfl, ⟨rfl⟩, ⟨rfl⟩, ⟨Kd.R_nil _ _ _ _ _⟩, HI, HLk, HB, HO⟩
  case round =>
    clear HB HI HO HLk
    obtain ⟨i, A, c, l, si, sri, bi, hi, rfl, rfl, HL, HES, HR, HI, HLk, HB, HO⟩ := hrel
    have c1 : wr.cell? ⟨g, 1, none⟩ = some (.bool bi) := HI.out.1.cell (i := 1) rfl
    by_cases hgo : i < N ∧ bi = false
    · obtain ⟨hlt, rfl⟩ := hgo
      obtain ⟨kk, rfl⟩ : ∃ z, gk = z + 1 := ⟨gk - 1, by omega⟩
      have hlt' : (i : Int) < (N : Int) := by omega
      go_wp2_with fail
      clear c1
      obtain ⟨⟨n1, s2, b2⟩, hx2⟩ : ∃ X : Int × ByteArray × Bool, rdNum 1 si false = X := ⟨_, rfl⟩
      have HX2 := Aside0.mk hx2
      clear hx2
      refine (rin_numV 1 n1 s2 b2 w0 g si sri _ _ HX2.out HB.out HI.out HLk.out).mono ?_
      rintro e w2 ⟨rfl, ⟨sr2, hi, hlk⟩, ho⟩
      replace HR := Aside0.mk (R_onlyF HR.out ho HI.out)
      replace HB := Aside0.mk (below_only HB.out ho HI.out.2)
      replace HO := Aside0.mk (only_trans HO.out ho)
      replace HI := Aside0.mk hi
      replace HLk := Aside0.mk hlk
      clear hi ho hlk
      go_wp2_with fail
      obtain ⟨⟨n2, s3, b3⟩, hx3⟩ : ∃ X : Int × ByteArray × Bool, rdNum 1 s2 b2 = X := ⟨_, rfl⟩
      have HX3 := Aside0.mk hx3
      clear hx3
      refine (rin_numV 1 n2 s3 b3 w0 g s2 sr2 _ _ HX3.out HB.out HI.out HLk.out).mono ?_
      rintro e w3 ⟨rfl, ⟨sr3, hi, hlk⟩, ho⟩
      replace HR := Aside0.mk (R_onlyF HR.out ho HI.out)
      replace HB := Aside0.mk (below_only HB.out ho HI.out.2)
      replace HO := Aside0.mk (only_trans HO.out ho)
      replace HI := Aside0.mk hi
      replace HLk := Aside0.mk hlk
      clear hi ho hlk
      go_wp2_with fail
      obtain ⟨⟨n3, s4, b4⟩, hx4⟩ : ∃ X : Int × ByteArray × Bool, rdNum 1 s3 b3 = X := ⟨_, rfl⟩
      have HX4 := Aside0.mk hx4
      clear hx4
      refine (rin_numV 1 n3 s4 b4 w0 g s3 sr3 _ _ HX4.out HB.out HI.out HLk.out).mono ?_
      rintro e w4 ⟨rfl, ⟨sr4, hi, hlk⟩, ho⟩
      replace HR := Aside0.mk (R_onlyF HR.out ho HI.out)
      replace HB := Aside0.mk (below_only HB.out ho HI.out.2)
      replace HO := Aside0.mk (only_trans HO.out ho)
      replace HI := Aside0.mk hi
      replace HLk := Aside0.mk hlk
      clear hi ho hlk
      have hln := HL.out
      have HS := Aside0.mk HO.out.size
      go_wp2_with (at_builtin; refine Kd.R_append k96 (w0 := w4) w.heap.size rfl (.tmp 26) (.tmp 32) 38 96 (.agg #[.int .i64 0, .int .i64 0, .int .i64 0]) 24 rfl Try.underlying38 infoEx rfl (by decide) (by decide) (.slice A i c) l ⟨n1, n2, n3⟩ [.int .i64 n1, .int .i64 n2, .int .i64 n3] (fun _ => True) (fun _ => False) rfl (by first | (go_simp; done) | (go_simp; rfl)) (k96_mkM _ _ _ (⟨n1, n2, n3⟩ : S96)) (fun _ hk => hk.elim) (fun _ _ => trivial) HR.out (Below.refl _ _) HS.out (by omega) ?_; intro v9 w9 hr9 hb9 hg9 hat9)
      obtain ⟨A9, c9, he9, hc9, _⟩ := Kd.R_reads hr9
      rw [List.length_append, List.length_singleton, HL.out] at he9
      subst he9
      have hne : some g ≠ (Value.slice A i c).ownBlock := Kd.R_ne HR.out HI.out.1.hd (by decide)
      have HI9 := Aside0.mk (show RefAt w9 w0.heap.size g sr4 b4 from ⟨(hg9.block g HI.out.1.lt hne).trans HI.out.1, HI.out.2⟩)
      have HO9 := Aside0.mk (only_base HO.out hb9)
      have HB9 := Aside0.mk (below_weaken HB.out HW0.out hb9)
      have HR9 := Aside0.mk hr9
      have HE9 := Aside0.mk (rdEs_succ HES.out (rdE_of HX2.out HX3.out HX4.out))
      have HL9 : Aside0 ((l ++ [(⟨n1, n2, n3⟩ : S96)]).length = i + 1) := ⟨by rw [List.length_append, List.length_singleton, HL.out]⟩
      clear hr9 hb9 hg9 hat9 hc9 HI HB HO HR HES HL hne hln
      go_wp2_with fail
      go_roundg kk
      case measure => omega
      case rel => exact ⟨i + 1, A9, c9, _, s4, sr4, b4, by omega, by go_num, rfl, HL9, HE9, HR9, HI9, HLk, HB9, HO9⟩
    · cases hbi : bi
      · subst hbi
        obtain rfl : i = N := by
          rcases Nat.lt_or_ge i N with h | h
          · exact absurd ⟨h, rfl⟩ hgo
          · omega
        have hlt' : ¬ (i : Int) < (i : Int) := by omega
        have hln := HL.out
        subst hln
        obtain ⟨A', c', he', hc', hC'⟩ := Kd.R_reads HR.out
        injection he' with h1 h2 h3
        subst h1
        subst h3
        have HC := Aside0.mk hC'
        have Hc := Aside0.mk hc'
        clear h2 hc' hC' hgo
        rw [HES.out] at HRE
        simp only at HRE
        have hval := HV.out (by rw [HES.out])
        rw [HES.out] at hval
        simp only at hval
        have Hval := Aside0.mk hval
        clear hval
        go_wp2_with fail
        refine (rvalid_calls A c l 64 (by decide) _ HC.out Hc.out).mono ?_
        rw [Hval.out]
        rintro e w8 ⟨rfl, hB8⟩
        replace HR := Aside0.mk (Kd.R_below HR.out hB8)
        replace HI := Aside0.mk (HI.out.keep hB8)
        replace HB := Aside0.mk (below_step HB.out hB8)
        replace HO := Aside0.mk (only_below HO.out hB8)
        clear hB8 c1
        cases v
        · have c1 : w8.cell? ⟨g, 1, none⟩ = some (.bool false) := HI.out.1.cell (i := 1) rfl
          have f1 := HI.out.1.frozen 1
          go_wp2_with fail
          go_ret
          have he := HRE.out
          simp only [if_true, if_false, Bool.false_eq_true, Prod.mk.injEq] at he
          obtain ⟨rfl, rfl, rfl⟩ := he
          exact ⟨_, rfl, Kd.R_nil _ _ _ _ _, ⟨sri, ⟨HI.out.1.set_ 1 _, HI.out.2⟩, fun h => by cases h⟩, only_set HO.out 1 _⟩
        · go_wp2_with fail
          go_ret
          have he := HRE.out
          simp only [if_true, if_false, Bool.false_eq_true, Prod.mk.injEq] at he
          obtain ⟨rfl, rfl, rfl⟩ := he
          exact ⟨_, rfl, HR.out, ⟨sri, HI.out, HLk.out⟩, HO.out⟩
      · subst hbi
        have hend : (rdEs N s1 b1).2.2 = true := by
          have h1 : (rdEs i s1 b1).2.2 = true := by rw [HES.out]
          have := rdEs_bad s1 b1 i h1 (N - i)
          rwa [show i + (N - i) = N by omega] at this
        rw [if_pos hend] at HRE
        have he := HRE.out
        simp only [Prod.mk.injEq] at he
        obtain ⟨rfl, rfl, rfl⟩ := he
        have f1 := HI.out.1.frozen 1
        clear hend HRE hgo
        by_cases hlt : i < N
        all_goals
          first
            | (have hlt' : (i : Int) < (N : Int) := by omega)
            | (have hlt' : ¬ (i : Int) < (N : Int) := by omega)
          clear hlt
          go_wp2_with fail
          go_ret
          exact ⟨_, rfl, Kd.R_nil _ _ _ _ _, ⟨sri, ⟨HI.out.1.set_ 1 _, HI.out.2⟩, fun h => by cases h⟩, only_set HO.out 1 _⟩
end Go.Proofs.Ytacmfpkmcefcfaa.Hand
end
section
namespace Go.Proofs.Ytacmfpkmcefcfaa.WOctetsRead
open Go.RowKit Go.Proofs.YtacmfpkmcefcfaaW.PrintWords Go.Proofs.YtacmfpkmcefcfaaW.PrintLast Go.Proofs.YtacmfpkmcefcfaaW.PrintMore Go.Proofs.Ytacmfpkmcefcfaa.A Go.Proofs.Ytacmfpkmcefcfaa.Hand Go.Proofs.Ytacmfpkmcefcfaa.ExtP
set_option linter.unusedVariables false
set_option linter.unusedSimpArgs false
attribute [local go_sem] max2_int min2_int max_two min_two max_three min_three max_four min_four
abbrev OP := S40
theorem num_nil (n : Int) (h1 : ¬ n < 1) (h4 : ¬ 4 < n) (w : World) : Calls Try.prog 19 #[.pointer none, .int .i64 n] w fun e w' => e = .returned (.int .i64 0) ∧ Below w.heap.size w w' := by
  go_enter Try.func19, Try.ntmps19
  go_wp2
  go_ret
  exact ⟨rfl, Below.refl _ _⟩
theorem left_nil (w : World) : Calls Try.prog 36 #[.pointer none] w fun e w' => e = .returned (.int .i64 0) ∧ Below w.heap.size w w' := by
  go_enter Try.func36, Try.ntmps36
  go_wp2_with fail
  go_ret
  exact ⟨rfl, Below.refl _ _⟩
theorem done_nil (w : World) : Calls Try.prog 20 #[.pointer none] w fun e w' => e = .returned (.int .i64 1) ∧ Below w.heap.size w w' := by
  go_enter Try.func20, Try.ntmps20
  go_wp2_with fail
  go_ret
  exact ⟨rfl, by first | exact Below.refl _ _ | exact below_drew1 (Below.refl _ _)⟩
theorem take_nil (n : Int) (w : World) : Calls Try.prog 58 #[.pointer none, .int .i64 n] w fun e w' => e = .returned (.tuple #[.string ByteArray.empty, .bool false]) ∧ Below w.heap.size w w' := by
  go_enter Try.func58, Try.ntmps58
  go_wp2_with fail
  go_ret2
  exact ⟨rfl, by first | exact Below.refl _ _ | exact below_drew1 (Below.refl _ _)⟩
theorem text_nil (w : World) : Calls Try.prog 30 #[.pointer none] w fun e w' => e = .returned (.string ByteArray.empty) ∧ Below w.heap.size w w' := by
  go_enter Try.func30, Try.ntmps30
  go_wp2_with fail
  refine (num_nil 1 (by decide) (by decide) w).mono ?_
  rintro e w1 ⟨rfl, h1⟩
  go_wp2_with fail
  refine (take_nil 0 w1).mono ?_
  rintro e w2 ⟨rfl, h2⟩
  go_wp2_with fail
  go_ret
  exact ⟨rfl, below_step h1 h2⟩
theorem ext_nil (w : World) : Calls Try.prog 32 #[.pointer none] w fun e w' => e = .returned (.slice none 0 0) ∧ Below w.heap.size w w' := by
  go_enter Try.func32, Try.ntmps32
  go_wp2_with fail
  refine (num_nil 1 (by decide) (by decide) w).mono ?_
  rintro e w1 ⟨rfl, h1⟩
  go_wp2_with fail
  go_loopg [7] 0 (fun kq v wz => v = .int .i64 0 ∧ wz = w1)
  case atStart => exact ⟨rfl, rfl⟩
  case round =>
    obtain ⟨rfl, rfl⟩ := hrel
    go_wp2_with fail
    go_ret
    exact ⟨rfl, h1⟩
theorem in_numV (n v : Int) (s' : ByteArray) (b' : Bool) (w0 : World) (g : Nat) (s : ByteArray) (b : Bool) (w : World) (hR : rdNum n s b = (v, s', b')) (hB : Below w0.heap.size w0 w) (h : InAt w w0.heap.size g s b) :
    Calls Try.prog 19 #[.pointer (some ⟨g, 0, none⟩), .int .i64 n] w fun e w' => e = .returned (.int .i64 v) ∧ InAt w' w0.heap.size g s' b' ∧ Only w w' g := by
  have := in_num n w0 g s b w hB h
  rw [hR] at this
  exact this
theorem in_textV (t s' : ByteArray) (b' : Bool) (w0 : World) (g : Nat) (s : ByteArray) (b : Bool) (w : World) (hR : rdText s b = (t, s', b')) (hB : Below w0.heap.size w0 w) (h : InAt w w0.heap.size g s b) :
    Calls Try.prog 30 #[.pointer (some ⟨g, 0, none⟩)] w fun e w' => e = .returned (.string t) ∧ InAt w' w0.heap.size g s' b' ∧ Only w w' g := by
  have := in_text w0 g s b w hB h
  rw [hR] at this
  exact this
theorem rin_textV (t s' : ByteArray) (b' : Bool) (w0 : World) (g : Nat) (s sr : ByteArray) (b : Bool) (w : World) (hR : rdText s b = (t, s', b')) (hB : Below w0.heap.size w0 w) (h : RefAt w w0.heap.size g sr b) (hl : Like s sr b) :
    Calls Try.prog 31 #[.pointer (some ⟨g, 0, none⟩)] w fun e w' => e = .returned (.string t) ∧ (∃ sr', RefAt w' w0.heap.size g sr' b' ∧ Like s' sr' b') ∧ Only w w' g := by
  have := rin_text w0 g s sr b w hB h hl
  rw [hR] at this
  exact this
theorem in_doneD (d : Int) (base g : Nat) (s : ByteArray) (b : Bool) (w : World) (hd : doneV s b = d) (h : InAt w base g s b) :
    Calls Try.prog 20 #[.pointer (some ⟨g, 0, none⟩)] w fun e w' => e = .returned (.int .i64 d) ∧ w' = w := by
  have := in_done base g s b w h
  rw [hd] at this
  exact this
theorem ref_onlyI {w w1 : World} {base b0 gr gi : Nat} {s sr : ByteArray} {b b' : Bool} (h : RefAt w base gr sr b) (ho : Only w w1 gi) (hi : InAt w b0 gi s b') : RefAt w1 base gr sr b := ⟨Blk.onlyI h.1 ho hi (by decide), h.2⟩
theorem in_onlyF {w w1 : World} {base b0 gr gi : Nat} {s sr : ByteArray} {b b' : Bool} (h : InAt w base gi s b) (ho : Only w w1 gr) (hf : RefAt w b0 gr sr b') : InAt w1 base gi s b := ⟨Blk.onlyF h.1 ho hf (by decide), h.2⟩
/-- Where the two readers and the book stand. -/
def RD (w : World) (base gi gr gB n : Nat) : Prop :=
  ∃ (s sr : ByteArray) (b : Bool) (LE : List (List EX)), Like s sr b ∧ InAt w base gi s b ∧ RefAt w base gr sr b ∧ KeptAt w base gB (fun k => w.heap.size ≤ k) [] [] LE ∧ LE.length ≤ n ∧ ∀ x ∈ LE, x.length ≤ 300
theorem rd_drew {w : World} {base gi gr gB n : Nat} (h : RD w base gi gr gB n) : RD w.drew base gi gr gB n := by
  obtain ⟨s, sr, b, LE, h1, h2, h3, h4, h5⟩ := h
  exact ⟨s, sr, b, LE, h1, h2.keep (below_drew1 (Below.refl _ _)), h3.keep (below_drew1 (Below.refl _ _)), (h4.keep (below_drew1 (Below.refl _ _))).top, h5⟩
theorem ext_len (v : Bool) (s : ByteArray) (b : Bool) : (rdExt v s b).1.length ≤ 300 := by
  unfold rdExt
  split
  · simp
  · split
    · have h1 := rdNum1_lt s b
      show (rdEs (rdNum 1 s b).1.toNat (rdNum 1 s b).2.1 (rdNum 1 s b).2.2).1.length ≤ 300
      rw [rdEs_length]
      omega
    · simp
set_option maxRecDepth 100000 in
theorem early (B : ByteArray) (A : Option Addr) (n c : Nat) (w : World) (h : 600 < (B.size : Int) ∨ (¬ 600 < (B.size : Int) ∧ 60 < (n : Int))) :
    Calls Try.prog 5 #[.string B, .slice A n c] w fun e w' => e = .returned (.bool true) ∧ Below w.heap.size w w' := by
  rcases h with h | ⟨h0, h⟩
  all_goals
    go_enter Try.func5, Try.ntmps5
    go_wp2_with (go_at_call 14; refine (alive13 _).mono ?_; rintro e w1 ⟨rfl, hB⟩)
    go_ret
    exact ⟨rfl, hB⟩
set_option maxRecDepth 100000 in
set_option maxHeartbeats 4000000 in
theorem main (B : ByteArray) (A : Option Addr) (c : Nat) (l : List OP) (w : World) (hBs : B.size ≤ 600) (hl60 : l.length ≤ 60) (hC : Kd.C k40 w A l.length l) (hc : l.length ≤ c) :
    Calls Try.prog 5 #[.string B, .slice A l.length c] w fun e w' => e = .returned (.bool true) ∧ Below w.heap.size w w' := by
  have n0 : ¬ 600 < (B.size : Int) := by omega
  have n1 : ¬ 60 < (l.length : Int) := by omega
  have HC := Aside0.mk hC
  have Hc := Aside0.mk hc
  have H60 := Aside0.mk hl60
  have HB := Aside0.mk (Below.refl w.heap.size w)
  have hln : (l.length : Int) ≤ 60 := by omega
  clear hC hc hBs hl60
  go_enter Try.func5, Try.ntmps5
  go_wp2_with fail
  refine (alive13 _).mono ?_
  rintro e w2 ⟨rfl, hB⟩
  replace HB := Aside0.mk hB
  clear hB
  go_wp2_with fail
  refine (in_from w B _ HB.out).mono ?_
  rintro e9 w3 ⟨gi, rfl, hi1, _, hb⟩
  have HI := Aside0.mk hi1
  replace HB := Aside0.mk (below_step HB.out hb)
  clear hi1 hb
  go_wp2_with fail
  have HS := Aside0.mk HB.out.size
  refine code_abs (fun Z => Below w.heap.size w Z ∧ InAt Z w.heap.size gi B false ∧ RefAt Z w.heap.size w3.heap.size B false ∧ KeptAt Z w.heap.size (w3.heap.size + 1) (fun k => Z.heap.size ≤ k) [] [] []) ⟨below_alloc (below_alloc HB.out _) _, (HI.out.keep (below_alloc (Below.refl _ _) _)).keep (below_alloc (Below.refl _ _) _), ⟨(Blk.new _ _ _).alloc _, HS.out⟩, KeptAt.new' _ _ _ (by simp) (Nat.le_trans HS.out (by simp))⟩ ?_
  rintro w4 ⟨q1, q2, q3, q4⟩
  have HIg : Aside0 (w.heap.size ≤ gi ∧ w.heap.size ≤ w3.heap.size) := ⟨⟨q2.2.1, HS.out⟩⟩
  replace HB := Aside0.mk q1
  replace HI := Aside0.mk q2
  have HF := Aside0.mk q3
  have HK := Aside0.mk q4
  clear q1 q2 q3 q4 HS
  generalize hgB : w3.heap.size + 1 = gB at *
  clear hgB
  generalize w3.heap.size = gr at *
  go_loopg [8] l.length (fun kq v8 wz => ∃ i : Nat, i + kq = l.length ∧ v8 = .int .i64 (i : Int) ∧ Aside0 (RD wz w.heap.size gi gr gB i) ∧ Aside0 (Below w.heap.size w wz))
  case atStart => exact ⟨0, by omega, rfl, ⟨B, B, false, [], fun _ => rfl, HI.out, HF.out, HK.out, by simp, by simp⟩, HB⟩
  case round =>
    clear HB HI HF HK
    obtain ⟨i, hi, rfl, HRD, HB⟩ := hrel
    by_cases hlt : i < l.length
    · obtain ⟨kk, rfl⟩ : ∃ z, gk = z + 1 := ⟨gk - 1, by omega⟩
      have hlt' : (i : Int) < (l.length : Int) := by omega
      obtain ⟨ad, A4, c4, e1, x0, x1, x2, x3, x4, _, _⟩ := at_T40 HC.out (i : Int) (by omega) (by omega)
      subst e1
      rw [Int.toNat_natCast] at x0 x1 x2 x3 x4
      generalize rd_T40 l (i : Int) = X at x0 x1 x2 x3 x4
      have HX0 := Aside0.mk (fun (W : World) (hb : Below w.heap.size w W) => keepP hb x0)
      have HX2 := Aside0.mk (fun (W : World) (hb : Below w.heap.size w W) => keepP hb x2)
      clear x0 x1 x2 x3 x4
      have x0 := HX0.out _ HB.out
      go_upto_block 2 with fail
      clear x0
      go_cut [9] (fun v9 wc => v9 = .bool true ∧ Aside0 (RD wc w.heap.size gi gr gB (i + 1)) ∧ Aside0 (Below w.heap.size w wc))
      case first =>
        obtain ⟨s, sr, b, LE, hlk, hi0, hf0, hk0, hle, hlx⟩ := HRD.out
        have HLk := Aside0.mk hlk
        have HI := Aside0.mk hi0
        have HF := Aside0.mk hf0
        have HK := Aside0.mk hk0
        have HLE := Aside0.mk hle
        have HLX := Aside0.mk hlx
        clear HRD hlk hi0 hf0 hk0 hle hlx
        by_cases hk1 : X.f0 = 1
        · have t1 : (X.f0 = 1) = True := eq_true hk1
          have t1' : (X.f0 == 1) = true := by rw [hk1]; rfl
          clear hk1
          obtain ⟨⟨v, s1, b1⟩, hR1⟩ : ∃ Y : Int × ByteArray × Bool, rdNum X.f2 s b = Y := ⟨_, rfl⟩
          have HR1 := Aside0.mk hR1
          clear hR1
          go_wp2_with fail
          refine start_ (n := 16) (S := fun w' => Below w.heap.size w w' ∧ w'.cell? ⟨(ad.add (i * 5)).block, (ad.add (i * 5)).off + 2, none⟩ = some (.int .i64 X.f2)) (ds := []) #[false, false, false, false, false, false, false, false, false, false, false, false, false, false, false, false] (by kernel_rfl) rfl rfl ⟨below_drew1 HB.out, (HX2.out _ (below_drew1 HB.out))⟩ (fun hHeld => ?_)
          refine pure_ (i := 0) (N := some 57) (v := ?_) (a' := ?_) #[true, false, false, false, false, false, false, false, false, false, false, false, false, false, false, false] rfl rfl (by kernel_rfl) (fun _ _ _ h => h) (Or.inl ⟨by rfl, ?_⟩) ?_ ?_
          rotate_left
          · intro w'
            go_simp
            with_reducible rfl
          rotate_left
          · simp only [Act.put, List.setIfInBounds_toArray, List.set_cons_zero, List.set_cons_succ, i64_w, i32_w]
            rfl
          refine pure_ (i := 1) (N := some 58) (v := ?_) (a' := ?_) #[true, true, false, false, false, false, false, false, false, false, false, false, false, false, false, false] rfl rfl (by kernel_rfl) (fun _ _ _ h => h) (Or.inl ⟨by rfl, ?_⟩) ?_ ?_
          rotate_left
          · intro w'
            go_simp
            with_reducible rfl
          rotate_left
          · simp only [Act.put, List.setIfInBounds_toArray, List.set_cons_zero, List.set_cons_succ, i64_w, i32_w]
            rfl
          refine pure_ (i := 2) (N := some 59) (v := ?_) (a' := ?_) #[true, true, true, false, false, false, false, false, false, false, false, false, false, false, false, false] rfl rfl (by kernel_rfl) (fun _ _ _ h => h) (Or.inl ⟨by rfl, ?_⟩) ?_ ?_
          rotate_left
          · intro w'
            go_simp
            with_reducible rfl
          rotate_left
          · simp only [Act.put, List.setIfInBounds_toArray, List.set_cons_zero, List.set_cons_succ, i64_w, i32_w]
            rfl
          refine pure_ (i := 3) (N := some 60) (v := ?_) (a' := ?_) #[true, true, true, true, false, false, false, false, false, false, false, false, false, false, false, false] rfl rfl (by kernel_rfl) (fun _ _ _ h => h) (Or.inl ⟨by rfl, ?_⟩) ?_ ?_
          rotate_left
          · intro w'
            go_simp
            with_reducible rfl
          rotate_left
          · simp only [Act.put, List.setIfInBounds_toArray, List.set_cons_zero, List.set_cons_succ, i64_w, i32_w]
            rfl
          refine pure_ (i := 4) (N := some 61) (v := ?_) (a' := ?_) #[true, true, true, true, true, false, false, false, false, false, false, false, false, false, false, false] rfl rfl (by kernel_rfl) (fun _ _ _ h => h) (Or.inl ⟨by rfl, ?_⟩) ?_ ?_
          rotate_left
          · intro w'
            go_simp
            with_reducible rfl
          rotate_left
          · simp only [Act.put, List.setIfInBounds_toArray, List.set_cons_zero, List.set_cons_succ, i64_w, i32_w]
            rfl
          refine pure_ (i := 7) (N := some 64) (v := ?_) (a' := ?_) #[true, true, true, true, true, false, false, true, false, false, false, false, false, false, false, false] rfl rfl (by kernel_rfl) (fun _ _ _ h => h) (Or.inl ⟨by rfl, ?_⟩) ?_ ?_
          rotate_left
          · intro w'
            go_simp
            with_reducible rfl
          rotate_left
          · simp only [Act.put, List.setIfInBounds_toArray, List.set_cons_zero, List.set_cons_succ, i64_w, i32_w]
            rfl
          refine pure_ (i := 8) (N := some 65) (v := ?_) (a' := ?_) #[true, true, true, true, true, false, false, true, true, false, false, false, false, false, false, false] rfl rfl (by kernel_rfl) (fun _ _ _ h => h) (Or.inl ⟨by rfl, ?_⟩) ?_ ?_
          rotate_left
          · intro w'
            go_simp
            with_reducible rfl
          rotate_left
          · simp only [Act.put, List.setIfInBounds_toArray, List.set_cons_zero, List.set_cons_succ, i64_w, i32_w]
            rfl
          refine pure_ (i := 9) (N := some 66) (v := ?_) (a' := ?_) #[true, true, true, true, true, false, false, true, true, true, false, false, false, false, false, false] rfl rfl (by kernel_rfl) (fun _ _ _ h => h) (Or.inl ⟨by rfl, ?_⟩) ?_ ?_
          rotate_left
          · intro w'
            go_simp
            with_reducible rfl
          rotate_left
          · simp only [Act.put, List.setIfInBounds_toArray, List.set_cons_zero, List.set_cons_succ, i64_w, i32_w]
            rfl
          refine pure_ (i := 10) (N := some 67) (v := ?_) (a' := ?_) #[true, true, true, true, true, false, false, true, true, true, true, false, false, false, false, false] rfl rfl (by kernel_rfl) (fun _ _ _ h => h) (Or.inl ⟨by rfl, ?_⟩) ?_ ?_
          rotate_left
          · intro w'
            go_simp
            with_reducible rfl
          rotate_left
          · simp only [Act.put, List.setIfInBounds_toArray, List.set_cons_zero, List.set_cons_succ, i64_w, i32_w]
            rfl
          refine pure_ (i := 11) (N := some 68) (v := ?_) (a' := ?_) #[true, true, true, true, true, false, false, true, true, true, true, true, false, false, false, false] rfl rfl (by kernel_rfl) (fun _ _ _ h => h) (Or.inl ⟨by rfl, ?_⟩) ?_ ?_
          rotate_left
          · intro w'
            go_simp
            with_reducible rfl
          rotate_left
          · simp only [Act.put, List.setIfInBounds_toArray, List.set_cons_zero, List.set_cons_succ, i64_w, i32_w]
            rfl
          refine take_ (i := 5) (N := some 62) (v := ?_) (a' := ?_) #[true, true, true, true, true, true, false, true, true, true, true, true, false, false, false, false] rfl rfl (by kernel_rfl) (fun _ _ _ h => h) (Or.inl ⟨by rfl, ?_⟩) hHeld ?_ ?_
          rotate_left
          · rintro w' ⟨s0, s1⟩
            go_simp
            with_reducible rfl
          rotate_left
          · simp only [Act.put, List.setIfInBounds_toArray, List.set_cons_zero, List.set_cons_succ, i64_w, i32_w]
            rfl
          refine take_ (i := 12) (N := some 69) (v := ?_) (a' := ?_) #[true, true, true, true, true, true, false, true, true, true, true, true, true, false, false, false] rfl rfl (by kernel_rfl) (fun _ _ _ h => h) (Or.inl ⟨by rfl, ?_⟩) hHeld ?_ ?_
          rotate_left
          · rintro w' ⟨s0, s1⟩
            go_simp
            with_reducible rfl
          rotate_left
          · simp only [Act.put, List.setIfInBounds_toArray, List.set_cons_zero, List.set_cons_succ, i64_w, i32_w]
            rfl
          refine one_ (i := 6) (N := some 63) #[true, true, true, true, true, true, true, true, true, true, true, true, true, false, false, false] rfl rfl (by kernel_rfl) (by decide) (fun K hK => ?_)
          refine goes_ Try.func19 (by kernel_rfl) rfl #[.pointer (some ⟨gi, 0, none⟩), .int .i64 X.f2] (by rfl) rfl rfl (by simp only [List.map_toArray, List.map_cons, List.map_nil]; rfl) ?_
          with_reducible refine (in_numV X.f2 v s1 b1 w gi s b _ HR1.out hHeld.1 (HI.out.keep (below_drew1 (Below.refl _ _)))).mono ?_
          rintro e w30 ⟨rfl, hi1, ho1⟩
          refine ⟨_, rfl, ?_⟩
          have hf1 := ref_onlyI (HF.out.keep (below_drew1 (Below.refl _ _))) ho1 (HI.out.keep (below_drew1 (Below.refl _ _)))
          have hk1 := (HK.out.keep (below_drew1 (Below.refl _ _))).only ho1 (HI.out.keep (below_drew1 (Below.refl _ _))).1 (by decide)
          refine hK.out _ _ ⟨below_only hHeld.1 ho1 HIg.out.1, HX2.out _ (below_only hHeld.1 ho1 HIg.out.1)⟩ (fun hHeld => ?_)
          clear hK K
          refine norm_ (a' := ?_) ?_ ?_
          rotate_left
          · show Act.put _ (some 63) _ = _
            simp only [Act.put, List.setIfInBounds_toArray, List.set_cons_zero, List.set_cons_succ, i64_w, i32_w]
            rfl
          refine one_ (i := 13) (N := some 70) #[true, true, true, true, true, true, true, true, true, true, true, true, true, true, false, false] rfl rfl (by kernel_rfl) (by decide) (fun K hK => ?_)
          refine goes_ Try.func29 (by kernel_rfl) rfl #[.pointer (some ⟨gr, 0, none⟩), .int .i64 X.f2] (by rfl) rfl rfl (by simp only [List.map_toArray, List.map_cons, List.map_nil]; rfl) ?_
          with_reducible refine (rin_numV X.f2 v s1 b1 w gr s sr b _ HR1.out hHeld.1 hf1 HLk.out).mono ?_
          rintro e w31 ⟨rfl, ⟨sr2, hf2, hlk2⟩, ho2⟩
          refine ⟨_, rfl, ?_⟩
          have hi2 := in_onlyF hi1 ho2 hf1
          have hk2 := hk1.only ho2 hf1.1 (by decide)
          refine hK.out _ _ ⟨below_only hHeld.1 ho2 HIg.out.2, HX2.out _ (below_only hHeld.1 ho2 HIg.out.2)⟩ (fun hHeld => ?_)
          clear hK K
          refine norm_ (a' := ?_) ?_ ?_
          rotate_left
          · show Act.put _ (some 70) _ = _
            simp only [Act.put, List.setIfInBounds_toArray, List.set_cons_zero, List.set_cons_succ, i64_w, i32_w]
            rfl
          refine pure_ (i := 14) (N := some 71) (v := ?_) (a' := ?_) #[true, true, true, true, true, true, true, true, true, true, true, true, true, true, true, false] rfl rfl (by kernel_rfl) (fun _ _ _ h => h) (Or.inl ⟨by rfl, ?_⟩) ?_ ?_
          rotate_left
          · intro w'
            go_simp
            with_reducible rfl
          rotate_left
          · simp only [Act.put, List.setIfInBounds_toArray, List.set_cons_zero, List.set_cons_succ, i64_w, i32_w]
            rfl
          refine pure_ (i := 15) (N := some 9) (v := ?_) (a' := ?_) #[true, true, true, true, true, true, true, true, true, true, true, true, true, true, true, true] rfl rfl (by kernel_rfl) (fun _ _ _ h => h) (Or.inl ⟨by rfl, ?_⟩) ?_ ?_
          rotate_left
          · intro w'
            go_simp
            with_reducible rfl
          rotate_left
          · simp only [Act.put, List.setIfInBounds_toArray, List.set_cons_zero, List.set_cons_succ, i64_w, i32_w]
            rfl
          refine done_ (by kernel_rfl) ?_
          have HB2 := Aside0.mk hHeld.1
          have HRD2 : Aside0 (RD w31 w.heap.size gi gr gB (i + 1)) := ⟨⟨s1, sr2, b1, LE, hlk2, hi2, hf2, hk2.top, by have := HLE.out; omega, HLX.out⟩⟩
          clear hHeld hi1 ho1 hf1 hk1 hf2 hlk2 ho2 hi2 hk2 HB HI HF HK
          go_wp2_with fail
          go_meet
          case rel => exact ⟨rfl, HRD2, HB2⟩
        · by_cases hk2 : X.f0 = 2
          · have t2 : (X.f0 = 2) = True := eq_true hk2
            have t2' : (X.f0 == 2) = true := by rw [hk2]; rfl
            clear hk2
            obtain ⟨⟨t, s1, b1⟩, hR1⟩ : ∃ Y : ByteArray × ByteArray × Bool, rdText s b = Y := ⟨_, rfl⟩
            have HR1 := Aside0.mk hR1
            clear hR1
            go_wp2_with fail
            refine (in_textV t s1 b1 w gi s b _ HR1.out HB.out HI.out).mono ?_
            rintro e9 w30 ⟨rfl, hi1, ho1⟩
            replace HF := Aside0.mk (ref_onlyI HF.out ho1 HI.out)
            replace HK := Aside0.mk (HK.out.only ho1 HI.out.1 (by decide))
            replace HB := Aside0.mk (below_only HB.out ho1 HIg.out.1)
            replace HI := Aside0.mk hi1
            clear hi1 ho1
            go_wp2_with fail
            refine (rin_textV t s1 b1 w gr s sr b _ HR1.out HB.out HF.out HLk.out).mono ?_
            rintro e9 w31 ⟨rfl, ⟨sr2, hf2, hlk2⟩, ho2⟩
            replace HI := Aside0.mk (in_onlyF HI.out ho2 HF.out)
            replace HK := Aside0.mk (HK.out.only ho2 HF.out.1 (by decide))
            replace HB := Aside0.mk (below_only HB.out ho2 HIg.out.2)
            have HRD2 : Aside0 (RD w31 w.heap.size gi gr gB (i + 1)) := ⟨⟨s1, sr2, b1, LE, hlk2, HI.out, hf2, HK.out.top, by have := HLE.out; omega, HLX.out⟩⟩
            clear hf2 hlk2 ho2 HI HF HK
            go_wp2_with fail
            go_meet
            case rel => exact ⟨rfl, HRD2, HB⟩
          · obtain ⟨v, hv⟩ : ∃ v, v = tidyB 64 (rdEs (rdNum 1 s b).1.toNat (rdNum 1 s b).2.1 (rdNum 1 s b).2.2).1 := ⟨_, rfl⟩
            have HV := Aside0.mk hv
            have HLo := Aside0.mk (ext_len v s b)
            have HVA : Aside0 (∃ K, extent_Valid.f K (rdEs (rdNum 1 s b).1.toNat (rdNum 1 s b).2.1 (rdNum 1 s b).2.2).1 64 = some v) := ⟨_, by
              rw [hv]
              exact valid_tidy 64 (by decide) _ (by rw [rdEs_length]; have := rdNum1_lt s b; omega) _ (Nat.lt_succ_self _)⟩
            obtain ⟨K, hK⟩ := HVA.out
            have HKv := Aside0.mk hK
            clear hv hK HVA
            obtain ⟨⟨lo, so, bo⟩, hR1⟩ : ∃ Y : List EX × ByteArray × Bool, rdExt v s b = Y := ⟨_, rfl⟩
            rw [hR1] at HLo
            have HR1 := Aside0.mk hR1
            clear hR1
            go_wp2_with fail
            refine (in_extents' K v lo so bo w gi s b _ HR1.out HB.out HI.out (fun _ => HKv.out)).mono ?_
            rintro e9 w30 ⟨u, rfl, hu, hi1, ho1⟩
            have HFR : Aside0 (∀ k, u.ownBlock = some k → wr.heap.size ≤ k) := ⟨fun k hk => Kd.R_base hu k hk⟩
            have HU := Aside0.mk (Kd.R_lower hu HB.out.size)
            replace HF := Aside0.mk (ref_onlyI HF.out ho1 HI.out)
            replace HK := Aside0.mk (HK.out.only ho1 HI.out.1 (by decide))
            replace HB := Aside0.mk (below_only HB.out ho1 HIg.out.1)
            replace HI := Aside0.mk hi1
            clear hu hi1 ho1
            go_wp2_with fail
            refine (kept_E gB w.heap.size _ [] [] LE u lo _ HK.out HU.out (by have := HLo.out; omega) (by have := HLE.out; have := H60.out; omega) HFR.out HB.out.size).mono ?_
            rintro e9 w32 ⟨rfl, hk1, hfx⟩
            obtain ⟨cs0, hkb⟩ := HK.out.book
            replace HI : Aside0 (InAt w32 w.heap.size gi so bo) := ⟨⟨hfx.blkT hkb HI.out.1 (by decide) (by decide), HI.out.2⟩⟩
            replace HF : Aside0 (RefAt w32 w.heap.size gr sr b) := ⟨⟨hfx.blkT hkb HF.out.1 (by decide) (by decide), HF.out.2⟩⟩
            replace HU := Aside0.mk (hfx.Rr rfl hkb HU.out (by decide) (by decide))
            replace HB := Aside0.mk (HB.out.trans hfx.1)
            replace HK := Aside0.mk hk1.top
            clear hk1 hfx hkb cs0 HFR
            go_wp2_with fail
            refine (rin_extents' v lo so bo w gr s sr b _ HR1.out HB.out HF.out HLk.out (fun _ => HV.out.symm)).mono ?_
            rintro e9 w33 ⟨u2, rfl, hu2, ⟨sr2, hf2, hlk2⟩, ho2⟩
            replace HI := Aside0.mk (in_onlyF HI.out ho2 HF.out)
            replace HK := Aside0.mk (HK.out.only ho2 HF.out.1 (by decide))
            replace HU := Aside0.mk (R_onlyF HU.out ho2 HF.out)
            replace HB := Aside0.mk (below_only HB.out ho2 HIg.out.2)
            replace HF := Aside0.mk hf2
            have HU2 := Aside0.mk hu2
            have HLk2 := Aside0.mk hlk2
            clear hf2 ho2 hu2 hlk2
            go_wp2_with fail
            refine (same_E u u2 lo _ HU.out HU2.out (by have := HLo.out; omega)).mono ?_
            rintro e9 w34 ⟨rfl, hb⟩
            have HB2 := Aside0.mk (below_step HB.out hb)
            have HRD2 : Aside0 (RD w34 w.heap.size gi gr gB (i + 1)) := ⟨⟨so, sr2, bo, LE ++ [lo], HLk2.out, HI.out.keep hb, HF.out.keep hb, (HK.out.keep hb).top, by rw [List.length_append, List.length_singleton]; have := HLE.out; omega, fun x hx => by
              rcases List.mem_append.1 hx with hx | hx
              · exact HLX.out x hx
              · rw [List.mem_singleton.1 hx]; have := HLo.out; simpa using this⟩⟩
            clear hb HB HI HF HK HU HU2
            go_wp2_with fail
            go_meet
            case rel => exact ⟨rfl, HRD2, HB2⟩
      case rest =>
        clear HRD HB
        obtain ⟨rfl, HRD, HB⟩ := hcut
        obtain ⟨s, sr, b, LE, hlk, hi0, hf0, hk0, hle, hlx⟩ := HRD.out
        have c0 : wc.cell? ⟨gr, 0, none⟩ = some (.string sr) := hf0.1.cell (i := 0) rfl
        have c1 : wc.cell? ⟨gr, 1, none⟩ = some (.bool b) := hf0.1.cell (i := 1) rfl
        have HI := Aside0.mk hi0
        have HLk := Aside0.mk hlk
        clear hlk hi0 hf0 hk0 hle hlx
        cases hb : b
        · subst hb
          have he := (HLk.out rfl).symm
          subst he
          cases hE : s.toList.isEmpty
          · have HD : Aside0 (doneV s false = 8) := ⟨by unfold doneV; rw [if_neg Bool.false_ne_true, if_neg (by rw [hE]; exact Bool.false_ne_true)]⟩
            go_wp2_with fail
            refine start_ (n := 36) (S := fun w' => Below w.heap.size w w' ∧ InAt w' w.heap.size gi s false ∧ w'.cell? ⟨gr, 0, none⟩ = some (.string s) ∧ w'.cell? ⟨gr, 1, none⟩ = some (.bool false)) (ds := []) #[false, false, false, false, false, false, false, false, false, false, false, false, false, false, false, false, false, false, false, false, false, false, false, false, false, false, false, false, false, false, false, false, false, false, false, false] (by kernel_rfl) rfl rfl ⟨below_drew1 HB.out, HI.out.keep (below_drew1 (Below.refl _ _)), c0, c1⟩ (fun hHeld => ?_)
            refine pure_ (i := 0) (N := some 88) (v := ?_) (a' := ?_) #[true, false, false, false, false, false, false, false, false, false, false, false, false, false, false, false, false, false, false, false, false, false, false, false, false, false, false, false, false, false, false, false, false, false, false, false] rfl rfl (by kernel_rfl) (fun _ _ _ h => h) (Or.inl ⟨by rfl, ?_⟩) ?_ ?_
            rotate_left
            · intro w'
              go_simp
              with_reducible rfl
            rotate_left
            · simp only [Act.put, List.setIfInBounds_toArray, List.set_cons_zero, List.set_cons_succ, i64_w, i32_w]
              rfl
            refine pure_ (i := 1) (N := some 89) (v := ?_) (a' := ?_) #[true, true, false, false, false, false, false, false, false, false, false, false, false, false, false, false, false, false, false, false, false, false, false, false, false, false, false, false, false, false, false, false, false, false, false, false] rfl rfl (by kernel_rfl) (fun _ _ _ h => h) (Or.inl ⟨by rfl, ?_⟩) ?_ ?_
            rotate_left
            · intro w'
              go_simp
              with_reducible rfl
            rotate_left
            · simp only [Act.put, List.setIfInBounds_toArray, List.set_cons_zero, List.set_cons_succ, i64_w, i32_w]
              rfl
            refine pure_ (i := 2) (N := some 90) (v := ?_) (a' := ?_) #[true, true, true, false, false, false, false, false, false, false, false, false, false, false, false, false, false, false, false, false, false, false, false, false, false, false, false, false, false, false, false, false, false, false, false, false] rfl rfl (by kernel_rfl) (fun _ _ _ h => h) (Or.inl ⟨by rfl, ?_⟩) ?_ ?_
            rotate_left
            · intro w'
              go_simp
              with_reducible rfl
            rotate_left
            · simp only [Act.put, List.setIfInBounds_toArray, List.set_cons_zero, List.set_cons_succ, i64_w, i32_w]
              rfl
            refine pure_ (i := 3) (N := some 91) (v := ?_) (a' := ?_) #[true, true, true, true, false, false, false, false, false, false, false, false, false, false, false, false, false, false, false, false, false, false, false, false, false, false, false, false, false, false, false, false, false, false, false, false] rfl rfl (by kernel_rfl) (fun _ _ _ h => h) (Or.inl ⟨by rfl, ?_⟩) ?_ ?_
            rotate_left
            · intro w'
              go_simp
              with_reducible rfl
            rotate_left
            · simp only [Act.put, List.setIfInBounds_toArray, List.set_cons_zero, List.set_cons_succ, i64_w, i32_w]
              rfl
            refine pure_ (i := 5) (N := some 93) (v := ?_) (a' := ?_) #[true, true, true, true, false, true, false, false, false, false, false, false, false, false, false, false, false, false, false, false, false, false, false, false, false, false, false, false, false, false, false, false, false, false, false, false] rfl rfl (by kernel_rfl) (fun _ _ _ h => h) (Or.inl ⟨by rfl, ?_⟩) ?_ ?_
            rotate_left
            · intro w'
              go_simp
              with_reducible rfl
            rotate_left
            · simp only [Act.put, List.setIfInBounds_toArray, List.set_cons_zero, List.set_cons_succ, i64_w, i32_w]
              rfl
            refine one_ (i := 4) (N := some 92) #[true, true, true, true, true, true, false, false, false, false, false, false, false, false, false, false, false, false, false, false, false, false, false, false, false, false, false, false, false, false, false, false, false, false, false, false] rfl rfl (by kernel_rfl) (by decide) (fun K hK => ?_)
            refine goes_ Try.func36 (by kernel_rfl) rfl #[.pointer (some ⟨gi, 0, none⟩)] (by rfl) rfl rfl (by simp only [List.map_toArray, List.map_cons, List.map_nil]; rfl) ?_
            with_reducible refine (in_left w.heap.size gi s false _ hHeld.2.1).mono ?_
            rintro e w50 ⟨rfl, hw⟩
            refine ⟨_, rfl, ?_⟩
            subst w50
            refine hK.out _ _ ⟨hHeld.1, hHeld.2.1, hHeld.2.2.1, hHeld.2.2.2⟩ (fun hHeld => ?_)
            clear hK K
            refine norm_ (a' := ?_) ?_ ?_
            rotate_left
            · show Act.put _ (some 92) _ = _
              simp only [Act.put, List.setIfInBounds_toArray, List.set_cons_zero, List.set_cons_succ, i64_w, i32_w]
              rfl
            refine pure_ (i := 6) (N := some 94) (v := ?_) (a' := ?_) #[true, true, true, true, true, true, true, false, false, false, false, false, false, false, false, false, false, false, false, false, false, false, false, false, false, false, false, false, false, false, false, false, false, false, false, false] rfl rfl (by kernel_rfl) (fun _ _ _ h => h) (Or.inl ⟨by rfl, ?_⟩) ?_ ?_
            rotate_left
            · intro w'
              go_simp
              with_reducible rfl
            rotate_left
            · simp only [Act.put, List.setIfInBounds_toArray, List.set_cons_zero, List.set_cons_succ, i64_w, i32_w]
              rfl
            refine pure_ (i := 7) (N := some 95) (v := ?_) (a' := ?_) #[true, true, true, true, true, true, true, true, false, false, false, false, false, false, false, false, false, false, false, false, false, false, false, false, false, false, false, false, false, false, false, false, false, false, false, false] rfl rfl (by kernel_rfl) (fun _ _ _ h => h) (Or.inl ⟨by rfl, ?_⟩) ?_ ?_
            rotate_left
            · intro w'
              go_simp
              with_reducible rfl
            rotate_left
            · simp only [Act.put, List.setIfInBounds_toArray, List.set_cons_zero, List.set_cons_succ, i64_w, i32_w]
              rfl
            refine pure_ (i := 8) (N := some 96) (v := ?_) (a' := ?_) #[true, true, true, true, true, true, true, true, true, false, false, false, false, false, false, false, false, false, false, false, false, false, false, false, false, false, false, false, false, false, false, false, false, false, false, false] rfl rfl (by kernel_rfl) (fun _ _ _ h => h) (Or.inl ⟨by rfl, ?_⟩) ?_ ?_
            rotate_left
            · intro w'
              go_simp
              with_reducible rfl
            rotate_left
            · simp only [Act.put, List.setIfInBounds_toArray, List.set_cons_zero, List.set_cons_succ, i64_w, i32_w]
              rfl
            refine pure_ (i := 9) (N := some 97) (v := ?_) (a' := ?_) #[true, true, true, true, true, true, true, true, true, true, false, false, false, false, false, false, false, false, false, false, false, false, false, false, false, false, false, false, false, false, false, false, false, false, false, false] rfl rfl (by kernel_rfl) (fun _ _ _ h => h) (Or.inl ⟨by rfl, ?_⟩) ?_ ?_
            rotate_left
            · intro w'
              go_simp
              with_reducible rfl
            rotate_left
            · simp only [Act.put, List.setIfInBounds_toArray, List.set_cons_zero, List.set_cons_succ, i64_w, i32_w]
              rfl
            refine pure_ (i := 12) (N := some 100) (v := ?_) (a' := ?_) #[true, true, true, true, true, true, true, true, true, true, false, false, true, false, false, false, false, false, false, false, false, false, false, false, false, false, false, false, false, false, false, false, false, false, false, false] rfl rfl (by kernel_rfl) (fun _ _ _ h => h) (Or.inl ⟨by rfl, ?_⟩) ?_ ?_
            rotate_left
            · intro w'
              go_simp
              with_reducible rfl
            rotate_left
            · simp only [Act.put, List.setIfInBounds_toArray, List.set_cons_zero, List.set_cons_succ, i64_w, i32_w]
              rfl
            refine pure_ (i := 13) (N := some 101) (v := ?_) (a' := ?_) #[true, true, true, true, true, true, true, true, true, true, false, false, true, true, false, false, false, false, false, false, false, false, false, false, false, false, false, false, false, false, false, false, false, false, false, false] rfl rfl (by kernel_rfl) (fun _ _ _ h => h) (Or.inl ⟨by rfl, ?_⟩) ?_ ?_
            rotate_left
            · intro w'
              go_simp
              with_reducible rfl
            rotate_left
            · simp only [Act.put, List.setIfInBounds_toArray, List.set_cons_zero, List.set_cons_succ, i64_w, i32_w]
              rfl
            refine pure_ (i := 14) (N := some 102) (v := ?_) (a' := ?_) #[true, true, true, true, true, true, true, true, true, true, false, false, true, true, true, false, false, false, false, false, false, false, false, false, false, false, false, false, false, false, false, false, false, false, false, false] rfl rfl (by kernel_rfl) (fun _ _ _ h => h) (Or.inl ⟨by rfl, ?_⟩) ?_ ?_
            rotate_left
            · intro w'
              go_simp
              with_reducible rfl
            rotate_left
            · simp only [Act.put, List.setIfInBounds_toArray, List.set_cons_zero, List.set_cons_succ, i64_w, i32_w]
              rfl
            refine take_ (i := 15) (N := some 103) (v := ?_) (a' := ?_) #[true, true, true, true, true, true, true, true, true, true, false, false, true, true, true, true, false, false, false, false, false, false, false, false, false, false, false, false, false, false, false, false, false, false, false, false] rfl rfl (by kernel_rfl) (fun _ _ _ h => h) (Or.inl ⟨by rfl, ?_⟩) hHeld ?_ ?_
            rotate_left
            · rintro w' ⟨s0, s1, s2, s3⟩
              go_simp
              with_reducible rfl
            rotate_left
            · simp only [Act.put, List.setIfInBounds_toArray, List.set_cons_zero, List.set_cons_succ, i64_w, i32_w]
              rfl
            refine pure_ (i := 16) (N := some 104) (v := ?_) (a' := ?_) #[true, true, true, true, true, true, true, true, true, true, false, false, true, true, true, true, true, false, false, false, false, false, false, false, false, false, false, false, false, false, false, false, false, false, false, false] rfl rfl (by kernel_rfl) (fun _ _ _ h => h) (Or.inl ⟨by rfl, ?_⟩) ?_ ?_
            rotate_left
            · intro w'
              go_simp
              with_reducible rfl
            rotate_left
            · simp only [Act.put, List.setIfInBounds_toArray, List.set_cons_zero, List.set_cons_succ, i64_w, i32_w]
              rfl
            refine one_ (i := 10) (N := some 98) #[true, true, true, true, true, true, true, true, true, true, true, false, true, true, true, true, true, false, false, false, false, false, false, false, false, false, false, false, false, false, false, false, false, false, false, false] rfl rfl (by kernel_rfl) (by decide) (fun K hK => ?_)
            refine goes_ Try.func20 (by kernel_rfl) rfl #[.pointer (some ⟨gi, 0, none⟩)] (by rfl) rfl rfl (by simp only [List.map_toArray, List.map_cons, List.map_nil]; rfl) ?_
            with_reducible refine (in_doneD 8 w.heap.size gi s false _ HD.out hHeld.2.1).mono ?_
            rintro e w510 ⟨rfl, hw⟩
            refine ⟨_, rfl, ?_⟩
            subst w510
            refine hK.out _ _ ⟨hHeld.1, hHeld.2.1, hHeld.2.2.1, hHeld.2.2.2⟩ (fun hHeld => ?_)
            clear hK K
            refine norm_ (a' := ?_) ?_ ?_
            rotate_left
            · show Act.put _ (some 98) _ = _
              simp only [Act.put, List.setIfInBounds_toArray, List.set_cons_zero, List.set_cons_succ, i64_w, i32_w]
              rfl
            refine pure_ (i := 11) (N := some 99) (v := ?_) (a' := ?_) #[true, true, true, true, true, true, true, true, true, true, true, true, true, true, true, true, true, false, false, false, false, false, false, false, false, false, false, false, false, false, false, false, false, false, false, false] rfl rfl (by kernel_rfl) (fun _ _ _ h => h) (Or.inl ⟨by rfl, ?_⟩) ?_ ?_
            rotate_left
            · intro w'
              go_simp
              with_reducible rfl
            rotate_left
            · simp only [Act.put, List.setIfInBounds_toArray, List.set_cons_zero, List.set_cons_succ, i64_w, i32_w]
              rfl
            refine pure_ (i := 17) (N := some 105) (v := ?_) (a' := ?_) #[true, true, true, true, true, true, true, true, true, true, true, true, true, true, true, true, true, true, false, false, false, false, false, false, false, false, false, false, false, false, false, false, false, false, false, false] rfl rfl (by kernel_rfl) (fun _ _ _ h => h) (Or.inl ⟨by rfl, ?_⟩) ?_ ?_
            rotate_left
            · intro w'
              go_simp
              with_reducible rfl
            rotate_left
            · simp only [Act.put, List.setIfInBounds_toArray, List.set_cons_zero, List.set_cons_succ, i64_w, i32_w]
              rfl
            refine pure_ (i := 18) (N := some 106) (v := ?_) (a' := ?_) #[true, true, true, true, true, true, true, true, true, true, true, true, true, true, true, true, true, true, true, false, false, false, false, false, false, false, false, false, false, false, false, false, false, false, false, false] rfl rfl (by kernel_rfl) (fun _ _ _ h => h) (Or.inl ⟨by rfl, ?_⟩) ?_ ?_
            rotate_left
            · intro w'
              go_simp
              with_reducible rfl
            rotate_left
            · simp only [Act.put, List.setIfInBounds_toArray, List.set_cons_zero, List.set_cons_succ, i64_w, i32_w]
              rfl
            refine pure_ (i := 19) (N := some 107) (v := ?_) (a' := ?_) #[true, true, true, true, true, true, true, true, true, true, true, true, true, true, true, true, true, true, true, true, false, false, false, false, false, false, false, false, false, false, false, false, false, false, false, false] rfl rfl (by kernel_rfl) (fun _ _ _ h => h) (Or.inl ⟨by rfl, ?_⟩) ?_ ?_
            rotate_left
            · intro w'
              go_simp
              with_reducible rfl
            rotate_left
            · simp only [Act.put, List.setIfInBounds_toArray, List.set_cons_zero, List.set_cons_succ, i64_w, i32_w]
              rfl
            refine pure_ (i := 20) (N := some 108) (v := ?_) (a' := ?_) #[true, true, true, true, true, true, true, true, true, true, true, true, true, true, true, true, true, true, true, true, true, false, false, false, false, false, false, false, false, false, false, false, false, false, false, false] rfl rfl (by kernel_rfl) (fun _ _ _ h => h) (Or.inl ⟨by rfl, ?_⟩) ?_ ?_
            rotate_left
            · intro w'
              go_simp
              with_reducible rfl
            rotate_left
            · simp only [Act.put, List.setIfInBounds_toArray, List.set_cons_zero, List.set_cons_succ, i64_w, i32_w]
              rfl
            refine take_ (i := 21) (N := some 109) (v := ?_) (a' := ?_) #[true, true, true, true, true, true, true, true, true, true, true, true, true, true, true, true, true, true, true, true, true, true, false, false, false, false, false, false, false, false, false, false, false, false, false, false] rfl rfl (by kernel_rfl) (fun _ _ _ h => h) (Or.inl ⟨by rfl, ?_⟩) hHeld ?_ ?_
            rotate_left
            · rintro w' ⟨s0, s1, s2, s3⟩
              go_simp
              with_reducible rfl
            rotate_left
            · simp only [Act.put, List.setIfInBounds_toArray, List.set_cons_zero, List.set_cons_succ, i64_w, i32_w]
              rfl
            refine pure_ (i := 22) (N := some 110) (v := ?_) (a' := ?_) #[true, true, true, true, true, true, true, true, true, true, true, true, true, true, true, true, true, true, true, true, true, true, true, false, false, false, false, false, false, false, false, false, false, false, false, false] rfl rfl (by kernel_rfl) (fun _ _ _ h => h) (Or.inl ⟨by rfl, ?_⟩) ?_ ?_
            rotate_left
            · intro w'
              go_simp
              with_reducible rfl
            rotate_left
            · simp only [Act.put, List.setIfInBounds_toArray, List.set_cons_zero, List.set_cons_succ, i64_w, i32_w]
              rfl
            refine pure_ (i := 23) (N := some 111) (v := ?_) (a' := ?_) #[true, true, true, true, true, true, true, true, true, true, true, true, true, true, true, true, true, true, true, true, true, true, true, true, false, false, false, false, false, false, false, false, false, false, false, false] rfl rfl (by kernel_rfl) (fun _ _ _ h => h) (Or.inl ⟨by rfl, ?_⟩) ?_ ?_
            rotate_left
            · intro w'
              go_simp
              with_reducible rfl
            rotate_left
            · simp only [Act.put, List.setIfInBounds_toArray, List.set_cons_zero, List.set_cons_succ, i64_w, i32_w]
              rfl
            refine pure_ (i := 24) (N := some 112) (v := ?_) (a' := ?_) #[true, true, true, true, true, true, true, true, true, true, true, true, true, true, true, true, true, true, true, true, true, true, true, true, true, false, false, false, false, false, false, false, false, false, false, false] rfl rfl (by kernel_rfl) (fun _ _ _ h => h) (Or.inl ⟨by rfl, ?_⟩) ?_ ?_
            rotate_left
            · intro w'
              go_simp
              with_reducible rfl
            rotate_left
            · simp only [Act.put, List.setIfInBounds_toArray, List.set_cons_zero, List.set_cons_succ, i64_w, i32_w]
              rfl
            refine pure_ (i := 25) (N := some 113) (v := ?_) (a' := ?_) #[true, true, true, true, true, true, true, true, true, true, true, true, true, true, true, true, true, true, true, true, true, true, true, true, true, true, false, false, false, false, false, false, false, false, false, false] rfl rfl (by kernel_rfl) (fun _ _ _ h => h) (Or.inl ⟨by rfl, ?_⟩) ?_ ?_
            rotate_left
            · intro w'
              go_simp
              with_reducible rfl
            rotate_left
            · simp only [Act.put, List.setIfInBounds_toArray, List.set_cons_zero, List.set_cons_succ, i64_w, i32_w]
              rfl
            refine pure_ (i := 26) (N := some 114) (v := ?_) (a' := ?_) #[true, true, true, true, true, true, true, true, true, true, true, true, true, true, true, true, true, true, true, true, true, true, true, true, true, true, true, false, false, false, false, false, false, false, false, false] rfl rfl (by kernel_rfl) (fun _ _ _ h => h) (Or.inl ⟨by rfl, ?_⟩) ?_ ?_
            rotate_left
            · intro w'
              go_simp
              with_reducible rfl
            rotate_left
            · simp only [Act.put, List.setIfInBounds_toArray, List.set_cons_zero, List.set_cons_succ, i64_w, i32_w]
              rfl
            refine pure_ (i := 27) (N := some 115) (v := ?_) (a' := ?_) #[true, true, true, true, true, true, true, true, true, true, true, true, true, true, true, true, true, true, true, true, true, true, true, true, true, true, true, true, false, false, false, false, false, false, false, false] rfl rfl (by kernel_rfl) (fun _ _ _ h => h) (Or.inl ⟨by rfl, ?_⟩) ?_ ?_
            rotate_left
            · intro w'
              go_simp
              with_reducible rfl
            rotate_left
            · simp only [Act.put, List.setIfInBounds_toArray, List.set_cons_zero, List.set_cons_succ, i64_w, i32_w]
              rfl
            refine one_ (i := 28) (N := some 116) #[true, true, true, true, true, true, true, true, true, true, true, true, true, true, true, true, true, true, true, true, true, true, true, true, true, true, true, true, true, false, false, false, false, false, false, false] rfl rfl (by kernel_rfl) (by decide) (fun K hK => ?_)
            refine goes_ Try.func20 (by kernel_rfl) rfl #[.pointer (some ⟨gi, 0, none⟩)] (by rfl) rfl rfl (by simp only [List.map_toArray, List.map_cons, List.map_nil]; rfl) ?_
            with_reducible refine (in_doneD 8 w.heap.size gi s false _ HD.out hHeld.2.1).mono ?_
            rintro e w528 ⟨rfl, hw⟩
            refine ⟨_, rfl, ?_⟩
            subst w528
            refine hK.out _ _ ⟨hHeld.1, hHeld.2.1, hHeld.2.2.1, hHeld.2.2.2⟩ (fun hHeld => ?_)
            clear hK K
            refine norm_ (a' := ?_) ?_ ?_
            rotate_left
            · show Act.put _ (some 116) _ = _
              simp only [Act.put, List.setIfInBounds_toArray, List.set_cons_zero, List.set_cons_succ, i64_w, i32_w]
              rfl
            refine pure_ (i := 29) (N := some 117) (v := ?_) (a' := ?_) #[true, true, true, true, true, true, true, true, true, true, true, true, true, true, true, true, true, true, true, true, true, true, true, true, true, true, true, true, true, true, false, false, false, false, false, false] rfl rfl (by kernel_rfl) (fun _ _ _ h => h) (Or.inl ⟨by rfl, ?_⟩) ?_ ?_
            rotate_left
            · intro w'
              go_simp
              with_reducible rfl
            rotate_left
            · simp only [Act.put, List.setIfInBounds_toArray, List.set_cons_zero, List.set_cons_succ, i64_w, i32_w]
              rfl
            refine pure_ (i := 30) (N := some 118) (v := ?_) (a' := ?_) #[true, true, true, true, true, true, true, true, true, true, true, true, true, true, true, true, true, true, true, true, true, true, true, true, true, true, true, true, true, true, true, false, false, false, false, false] rfl rfl (by kernel_rfl) (fun _ _ _ h => h) (Or.inl ⟨by rfl, ?_⟩) ?_ ?_
            rotate_left
            · intro w'
              go_simp
              with_reducible rfl
            rotate_left
            · simp only [Act.put, List.setIfInBounds_toArray, List.set_cons_zero, List.set_cons_succ, i64_w, i32_w]
              rfl
            refine pure_ (i := 31) (N := some 119) (v := ?_) (a' := ?_) #[true, true, true, true, true, true, true, true, true, true, true, true, true, true, true, true, true, true, true, true, true, true, true, true, true, true, true, true, true, true, true, true, false, false, false, false] rfl rfl (by kernel_rfl) (fun _ _ _ h => h) (Or.inl ⟨by rfl, ?_⟩) ?_ ?_
            rotate_left
            · intro w'
              go_simp
              with_reducible rfl
            rotate_left
            · simp only [Act.put, List.setIfInBounds_toArray, List.set_cons_zero, List.set_cons_succ, i64_w, i32_w]
              rfl
            refine one_ (i := 32) (N := some 120) #[true, true, true, true, true, true, true, true, true, true, true, true, true, true, true, true, true, true, true, true, true, true, true, true, true, true, true, true, true, true, true, true, true, false, false, false] rfl rfl (by kernel_rfl) (by decide) (fun K hK => ?_)
            refine goes_ Try.func20 (by kernel_rfl) rfl #[.pointer (some ⟨gi, 0, none⟩)] (by rfl) rfl rfl (by simp only [List.map_toArray, List.map_cons, List.map_nil]; rfl) ?_
            with_reducible refine (in_doneD 8 w.heap.size gi s false _ HD.out hHeld.2.1).mono ?_
            rintro e w532 ⟨rfl, hw⟩
            refine ⟨_, rfl, ?_⟩
            subst w532
            refine hK.out _ _ ⟨hHeld.1, hHeld.2.1, hHeld.2.2.1, hHeld.2.2.2⟩ (fun hHeld => ?_)
            clear hK K
            refine norm_ (a' := ?_) ?_ ?_
            rotate_left
            · show Act.put _ (some 120) _ = _
              simp only [Act.put, List.setIfInBounds_toArray, List.set_cons_zero, List.set_cons_succ, i64_w, i32_w]
              rfl
            refine pure_ (i := 33) (N := some 121) (v := ?_) (a' := ?_) #[true, true, true, true, true, true, true, true, true, true, true, true, true, true, true, true, true, true, true, true, true, true, true, true, true, true, true, true, true, true, true, true, true, true, false, false] rfl rfl (by kernel_rfl) (fun _ _ _ h => h) (Or.inl ⟨by rfl, ?_⟩) ?_ ?_
            rotate_left
            · intro w'
              go_simp
              with_reducible rfl
            rotate_left
            · simp only [Act.put, List.setIfInBounds_toArray, List.set_cons_zero, List.set_cons_succ, i64_w, i32_w]
              rfl
            refine pure_ (i := 34) (N := some 122) (v := ?_) (a' := ?_) #[true, true, true, true, true, true, true, true, true, true, true, true, true, true, true, true, true, true, true, true, true, true, true, true, true, true, true, true, true, true, true, true, true, true, true, false] rfl rfl (by kernel_rfl) (fun _ _ _ h => h) (Or.inl ⟨by rfl, ?_⟩) ?_ ?_
            rotate_left
            · intro w'
              go_simp
              with_reducible rfl
            rotate_left
            · simp only [Act.put, List.setIfInBounds_toArray, List.set_cons_zero, List.set_cons_succ, i64_w, i32_w]
              rfl
            refine pure_ (i := 35) (N := some 123) (v := ?_) (a' := ?_) #[true, true, true, true, true, true, true, true, true, true, true, true, true, true, true, true, true, true, true, true, true, true, true, true, true, true, true, true, true, true, true, true, true, true, true, true] rfl rfl (by kernel_rfl) (fun _ _ _ h => h) (Or.inl ⟨by rfl, ?_⟩) ?_ ?_
            rotate_left
            · intro w'
              go_simp
              with_reducible rfl
            rotate_left
            · simp only [Act.put, List.setIfInBounds_toArray, List.set_cons_zero, List.set_cons_succ, i64_w, i32_w]
              rfl
            refine done_ (by kernel_rfl) ?_
            have HB2 := Aside0.mk hHeld.1
            have HRD2 : Aside0 (RD wc w.heap.size gi gr gB (i + 1)) := ⟨HRD.out⟩
            clear HRD HI HLk HB c0 c1 HD hE
            go_wp2_with fail
            go_roundg kk
            case measure => omega
            case rel => exact ⟨i + 1, by omega, by go_num, ⟨rd_drew HRD2.out⟩, HB2⟩
          · have HD : Aside0 (doneV s false = 0) := ⟨by unfold doneV; rw [if_neg Bool.false_ne_true, if_pos hE]⟩
            go_wp2_with fail
            refine start_ (n := 36) (S := fun w' => Below w.heap.size w w' ∧ InAt w' w.heap.size gi s false ∧ w'.cell? ⟨gr, 0, none⟩ = some (.string s) ∧ w'.cell? ⟨gr, 1, none⟩ = some (.bool false)) (ds := []) #[false, false, false, false, false, false, false, false, false, false, false, false, false, false, false, false, false, false, false, false, false, false, false, false, false, false, false, false, false, false, false, false, false, false, false, false] (by kernel_rfl) rfl rfl ⟨below_drew1 HB.out, HI.out.keep (below_drew1 (Below.refl _ _)), c0, c1⟩ (fun hHeld => ?_)
            refine pure_ (i := 0) (N := some 88) (v := ?_) (a' := ?_) #[true, false, false, false, false, false, false, false, false, false, false, false, false, false, false, false, false, false, false, false, false, false, false, false, false, false, false, false, false, false, false, false, false, false, false, false] rfl rfl (by kernel_rfl) (fun _ _ _ h => h) (Or.inl ⟨by rfl, ?_⟩) ?_ ?_
            rotate_left
            · intro w'
              go_simp
              with_reducible rfl
            rotate_left
            · simp only [Act.put, List.setIfInBounds_toArray, List.set_cons_zero, List.set_cons_succ, i64_w, i32_w]
              rfl
            refine pure_ (i := 1) (N := some 89) (v := ?_) (a' := ?_) #[true, true, false, false, false, false, false, false, false, false, false, false, false, false, false, false, false, false, false, false, false, false, false, false, false, false, false, false, false, false, false, false, false, false, false, false] rfl rfl (by kernel_rfl) (fun _ _ _ h => h) (Or.inl ⟨by rfl, ?_⟩) ?_ ?_
            rotate_left
            · intro w'
              go_simp
              with_reducible rfl
            rotate_left
            · simp only [Act.put, List.setIfInBounds_toArray, List.set_cons_zero, List.set_cons_succ, i64_w, i32_w]
              rfl
            refine pure_ (i := 2) (N := some 90) (v := ?_) (a' := ?_) #[true, true, true, false, false, false, false, false, false, false, false, false, false, false, false, false, false, false, false, false, false, false, false, false, false, false, false, false, false, false, false, false, false, false, false, false] rfl rfl (by kernel_rfl) (fun _ _ _ h => h) (Or.inl ⟨by rfl, ?_⟩) ?_ ?_
            rotate_left
            · intro w'
              go_simp
              with_reducible rfl
            rotate_left
            · simp only [Act.put, List.setIfInBounds_toArray, List.set_cons_zero, List.set_cons_succ, i64_w, i32_w]
              rfl
            refine pure_ (i := 3) (N := some 91) (v := ?_) (a' := ?_) #[true, true, true, true, false, false, false, false, false, false, false, false, false, false, false, false, false, false, false, false, false, false, false, false, false, false, false, false, false, false, false, false, false, false, false, false] rfl rfl (by kernel_rfl) (fun _ _ _ h => h) (Or.inl ⟨by rfl, ?_⟩) ?_ ?_
            rotate_left
            · intro w'
              go_simp
              with_reducible rfl
            rotate_left
            · simp only [Act.put, List.setIfInBounds_toArray, List.set_cons_zero, List.set_cons_succ, i64_w, i32_w]
              rfl
            refine pure_ (i := 5) (N := some 93) (v := ?_) (a' := ?_) #[true, true, true, true, false, true, false, false, false, false, false, false, false, false, false, false, false, false, false, false, false, false, false, false, false, false, false, false, false, false, false, false, false, false, false, false] rfl rfl (by kernel_rfl) (fun _ _ _ h => h) (Or.inl ⟨by rfl, ?_⟩) ?_ ?_
            rotate_left
            · intro w'
              go_simp
              with_reducible rfl
            rotate_left
            · simp only [Act.put, List.setIfInBounds_toArray, List.set_cons_zero, List.set_cons_succ, i64_w, i32_w]
              rfl
            refine one_ (i := 4) (N := some 92) #[true, true, true, true, true, true, false, false, false, false, false, false, false, false, false, false, false, false, false, false, false, false, false, false, false, false, false, false, false, false, false, false, false, false, false, false] rfl rfl (by kernel_rfl) (by decide) (fun K hK => ?_)
            refine goes_ Try.func36 (by kernel_rfl) rfl #[.pointer (some ⟨gi, 0, none⟩)] (by rfl) rfl rfl (by simp only [List.map_toArray, List.map_cons, List.map_nil]; rfl) ?_
            with_reducible refine (in_left w.heap.size gi s false _ hHeld.2.1).mono ?_
            rintro e w50 ⟨rfl, hw⟩
            refine ⟨_, rfl, ?_⟩
            subst w50
            refine hK.out _ _ ⟨hHeld.1, hHeld.2.1, hHeld.2.2.1, hHeld.2.2.2⟩ (fun hHeld => ?_)
            clear hK K
            refine norm_ (a' := ?_) ?_ ?_
            rotate_left
            · show Act.put _ (some 92) _ = _
              simp only [Act.put, List.setIfInBounds_toArray, List.set_cons_zero, List.set_cons_succ, i64_w, i32_w]
              rfl
            refine pure_ (i := 6) (N := some 94) (v := ?_) (a' := ?_) #[true, true, true, true, true, true, true, false, false, false, false, false, false, false, false, false, false, false, false, false, false, false, false, false, false, false, false, false, false, false, false, false, false, false, false, false] rfl rfl (by kernel_rfl) (fun _ _ _ h => h) (Or.inl ⟨by rfl, ?_⟩) ?_ ?_
            rotate_left
            · intro w'
              go_simp
              with_reducible rfl
            rotate_left
            · simp only [Act.put, List.setIfInBounds_toArray, List.set_cons_zero, List.set_cons_succ, i64_w, i32_w]
              rfl
            refine pure_ (i := 7) (N := some 95) (v := ?_) (a' := ?_) #[true, true, true, true, true, true, true, true, false, false, false, false, false, false, false, false, false, false, false, false, false, false, false, false, false, false, false, false, false, false, false, false, false, false, false, false] rfl rfl (by kernel_rfl) (fun _ _ _ h => h) (Or.inl ⟨by rfl, ?_⟩) ?_ ?_
            rotate_left
            · intro w'
              go_simp
              with_reducible rfl
            rotate_left
            · simp only [Act.put, List.setIfInBounds_toArray, List.set_cons_zero, List.set_cons_succ, i64_w, i32_w]
              rfl
            refine pure_ (i := 8) (N := some 96) (v := ?_) (a' := ?_) #[true, true, true, true, true, true, true, true, true, false, false, false, false, false, false, false, false, false, false, false, false, false, false, false, false, false, false, false, false, false, false, false, false, false, false, false] rfl rfl (by kernel_rfl) (fun _ _ _ h => h) (Or.inl ⟨by rfl, ?_⟩) ?_ ?_
            rotate_left
            · intro w'
              go_simp
              with_reducible rfl
            rotate_left
            · simp only [Act.put, List.setIfInBounds_toArray, List.set_cons_zero, List.set_cons_succ, i64_w, i32_w]
              rfl
            refine pure_ (i := 9) (N := some 97) (v := ?_) (a' := ?_) #[true, true, true, true, true, true, true, true, true, true, false, false, false, false, false, false, false, false, false, false, false, false, false, false, false, false, false, false, false, false, false, false, false, false, false, false] rfl rfl (by kernel_rfl) (fun _ _ _ h => h) (Or.inl ⟨by rfl, ?_⟩) ?_ ?_
            rotate_left
            · intro w'
              go_simp
              with_reducible rfl
            rotate_left
            · simp only [Act.put, List.setIfInBounds_toArray, List.set_cons_zero, List.set_cons_succ, i64_w, i32_w]
              rfl
            refine pure_ (i := 12) (N := some 100) (v := ?_) (a' := ?_) #[true, true, true, true, true, true, true, true, true, true, false, false, true, false, false, false, false, false, false, false, false, false, false, false, false, false, false, false, false, false, false, false, false, false, false, false] rfl rfl (by kernel_rfl) (fun _ _ _ h => h) (Or.inl ⟨by rfl, ?_⟩) ?_ ?_
            rotate_left
            · intro w'
              go_simp
              with_reducible rfl
            rotate_left
            · simp only [Act.put, List.setIfInBounds_toArray, List.set_cons_zero, List.set_cons_succ, i64_w, i32_w]
              rfl
            refine pure_ (i := 13) (N := some 101) (v := ?_) (a' := ?_) #[true, true, true, true, true, true, true, true, true, true, false, false, true, true, false, false, false, false, false, false, false, false, false, false, false, false, false, false, false, false, false, false, false, false, false, false] rfl rfl (by kernel_rfl) (fun _ _ _ h => h) (Or.inl ⟨by rfl, ?_⟩) ?_ ?_
            rotate_left
            · intro w'
              go_simp
              with_reducible rfl
            rotate_left
            · simp only [Act.put, List.setIfInBounds_toArray, List.set_cons_zero, List.set_cons_succ, i64_w, i32_w]
              rfl
            refine pure_ (i := 14) (N := some 102) (v := ?_) (a' := ?_) #[true, true, true, true, true, true, true, true, true, true, false, false, true, true, true, false, false, false, false, false, false, false, false, false, false, false, false, false, false, false, false, false, false, false, false, false] rfl rfl (by kernel_rfl) (fun _ _ _ h => h) (Or.inl ⟨by rfl, ?_⟩) ?_ ?_
            rotate_left
            · intro w'
              go_simp
              with_reducible rfl
            rotate_left
            · simp only [Act.put, List.setIfInBounds_toArray, List.set_cons_zero, List.set_cons_succ, i64_w, i32_w]
              rfl
            refine take_ (i := 15) (N := some 103) (v := ?_) (a' := ?_) #[true, true, true, true, true, true, true, true, true, true, false, false, true, true, true, true, false, false, false, false, false, false, false, false, false, false, false, false, false, false, false, false, false, false, false, false] rfl rfl (by kernel_rfl) (fun _ _ _ h => h) (Or.inl ⟨by rfl, ?_⟩) hHeld ?_ ?_
            rotate_left
            · rintro w' ⟨s0, s1, s2, s3⟩
              go_simp
              with_reducible rfl
            rotate_left
            · simp only [Act.put, List.setIfInBounds_toArray, List.set_cons_zero, List.set_cons_succ, i64_w, i32_w]
              rfl
            refine pure_ (i := 16) (N := some 104) (v := ?_) (a' := ?_) #[true, true, true, true, true, true, true, true, true, true, false, false, true, true, true, true, true, false, false, false, false, false, false, false, false, false, false, false, false, false, false, false, false, false, false, false] rfl rfl (by kernel_rfl) (fun _ _ _ h => h) (Or.inl ⟨by rfl, ?_⟩) ?_ ?_
            rotate_left
            · intro w'
              go_simp
              with_reducible rfl
            rotate_left
            · simp only [Act.put, List.setIfInBounds_toArray, List.set_cons_zero, List.set_cons_succ, i64_w, i32_w]
              rfl
            refine one_ (i := 10) (N := some 98) #[true, true, true, true, true, true, true, true, true, true, true, false, true, true, true, true, true, false, false, false, false, false, false, false, false, false, false, false, false, false, false, false, false, false, false, false] rfl rfl (by kernel_rfl) (by decide) (fun K hK => ?_)
            refine goes_ Try.func20 (by kernel_rfl) rfl #[.pointer (some ⟨gi, 0, none⟩)] (by rfl) rfl rfl (by simp only [List.map_toArray, List.map_cons, List.map_nil]; rfl) ?_
            with_reducible refine (in_doneD 0 w.heap.size gi s false _ HD.out hHeld.2.1).mono ?_
            rintro e w510 ⟨rfl, hw⟩
            refine ⟨_, rfl, ?_⟩
            subst w510
            refine hK.out _ _ ⟨hHeld.1, hHeld.2.1, hHeld.2.2.1, hHeld.2.2.2⟩ (fun hHeld => ?_)
            clear hK K
            refine norm_ (a' := ?_) ?_ ?_
            rotate_left
            · show Act.put _ (some 98) _ = _
              simp only [Act.put, List.setIfInBounds_toArray, List.set_cons_zero, List.set_cons_succ, i64_w, i32_w]
              rfl
            refine pure_ (i := 11) (N := some 99) (v := ?_) (a' := ?_) #[true, true, true, true, true, true, true, true, true, true, true, true, true, true, true, true, true, false, false, false, false, false, false, false, false, false, false, false, false, false, false, false, false, false, false, false] rfl rfl (by kernel_rfl) (fun _ _ _ h => h) (Or.inl ⟨by rfl, ?_⟩) ?_ ?_
            rotate_left
            · intro w'
              go_simp
              with_reducible rfl
            rotate_left
            · simp only [Act.put, List.setIfInBounds_toArray, List.set_cons_zero, List.set_cons_succ, i64_w, i32_w]
              rfl
            refine pure_ (i := 17) (N := some 105) (v := ?_) (a' := ?_) #[true, true, true, true, true, true, true, true, true, true, true, true, true, true, true, true, true, true, false, false, false, false, false, false, false, false, false, false, false, false, false, false, false, false, false, false] rfl rfl (by kernel_rfl) (fun _ _ _ h => h) (Or.inl ⟨by rfl, ?_⟩) ?_ ?_
            rotate_left
            · intro w'
              go_simp
              with_reducible rfl
            rotate_left
            · simp only [Act.put, List.setIfInBounds_toArray, List.set_cons_zero, List.set_cons_succ, i64_w, i32_w]
              rfl
            refine pure_ (i := 18) (N := some 106) (v := ?_) (a' := ?_) #[true, true, true, true, true, true, true, true, true, true, true, true, true, true, true, true, true, true, true, false, false, false, false, false, false, false, false, false, false, false, false, false, false, false, false, false] rfl rfl (by kernel_rfl) (fun _ _ _ h => h) (Or.inl ⟨by rfl, ?_⟩) ?_ ?_
            rotate_left
            · intro w'
              go_simp
              with_reducible rfl
            rotate_left
            · simp only [Act.put, List.setIfInBounds_toArray, List.set_cons_zero, List.set_cons_succ, i64_w, i32_w]
              rfl
            refine pure_ (i := 19) (N := some 107) (v := ?_) (a' := ?_) #[true, true, true, true, true, true, true, true, true, true, true, true, true, true, true, true, true, true, true, true, false, false, false, false, false, false, false, false, false, false, false, false, false, false, false, false] rfl rfl (by kernel_rfl) (fun _ _ _ h => h) (Or.inl ⟨by rfl, ?_⟩) ?_ ?_
            rotate_left
            · intro w'
              go_simp
              with_reducible rfl
            rotate_left
            · simp only [Act.put, List.setIfInBounds_toArray, List.set_cons_zero, List.set_cons_succ, i64_w, i32_w]
              rfl
            refine pure_ (i := 20) (N := some 108) (v := ?_) (a' := ?_) #[true, true, true, true, true, true, true, true, true, true, true, true, true, true, true, true, true, true, true, true, true, false, false, false, false, false, false, false, false, false, false, false, false, false, false, false] rfl rfl (by kernel_rfl) (fun _ _ _ h => h) (Or.inl ⟨by rfl, ?_⟩) ?_ ?_
            rotate_left
            · intro w'
              go_simp
              with_reducible rfl
            rotate_left
            · simp only [Act.put, List.setIfInBounds_toArray, List.set_cons_zero, List.set_cons_succ, i64_w, i32_w]
              rfl
            refine take_ (i := 21) (N := some 109) (v := ?_) (a' := ?_) #[true, true, true, true, true, true, true, true, true, true, true, true, true, true, true, true, true, true, true, true, true, true, false, false, false, false, false, false, false, false, false, false, false, false, false, false] rfl rfl (by kernel_rfl) (fun _ _ _ h => h) (Or.inl ⟨by rfl, ?_⟩) hHeld ?_ ?_
            rotate_left
            · rintro w' ⟨s0, s1, s2, s3⟩
              go_simp
              with_reducible rfl
            rotate_left
            · simp only [Act.put, List.setIfInBounds_toArray, List.set_cons_zero, List.set_cons_succ, i64_w, i32_w]
              rfl
            refine pure_ (i := 22) (N := some 110) (v := ?_) (a' := ?_) #[true, true, true, true, true, true, true, true, true, true, true, true, true, true, true, true, true, true, true, true, true, true, true, false, false, false, false, false, false, false, false, false, false, false, false, false] rfl rfl (by kernel_rfl) (fun _ _ _ h => h) (Or.inl ⟨by rfl, ?_⟩) ?_ ?_
            rotate_left
            · intro w'
              go_simp
              with_reducible rfl
            rotate_left
            · simp only [Act.put, List.setIfInBounds_toArray, List.set_cons_zero, List.set_cons_succ, i64_w, i32_w]
              rfl
            refine pure_ (i := 23) (N := some 111) (v := ?_) (a' := ?_) #[true, true, true, true, true, true, true, true, true, true, true, true, true, true, true, true, true, true, true, true, true, true, true, true, false, false, false, false, false, false, false, false, false, false, false, false] rfl rfl (by kernel_rfl) (fun _ _ _ h => h) (Or.inl ⟨by rfl, ?_⟩) ?_ ?_
            rotate_left
            · intro w'
              go_simp
              with_reducible rfl
            rotate_left
            · simp only [Act.put, List.setIfInBounds_toArray, List.set_cons_zero, List.set_cons_succ, i64_w, i32_w]
              rfl
            refine pure_ (i := 24) (N := some 112) (v := ?_) (a' := ?_) #[true, true, true, true, true, true, true, true, true, true, true, true, true, true, true, true, true, true, true, true, true, true, true, true, true, false, false, false, false, false, false, false, false, false, false, false] rfl rfl (by kernel_rfl) (fun _ _ _ h => h) (Or.inl ⟨by rfl, ?_⟩) ?_ ?_
            rotate_left
            · intro w'
              go_simp
              with_reducible rfl
            rotate_left
            · simp only [Act.put, List.setIfInBounds_toArray, List.set_cons_zero, List.set_cons_succ, i64_w, i32_w]
              rfl
            refine pure_ (i := 25) (N := some 113) (v := ?_) (a' := ?_) #[true, true, true, true, true, true, true, true, true, true, true, true, true, true, true, true, true, true, true, true, true, true, true, true, true, true, false, false, false, false, false, false, false, false, false, false] rfl rfl (by kernel_rfl) (fun _ _ _ h => h) (Or.inl ⟨by rfl, ?_⟩) ?_ ?_
            rotate_left
            · intro w'
              go_simp
              with_reducible rfl
            rotate_left
            · simp only [Act.put, List.setIfInBounds_toArray, List.set_cons_zero, List.set_cons_succ, i64_w, i32_w]
              rfl
            refine pure_ (i := 26) (N := some 114) (v := ?_) (a' := ?_) #[true, true, true, true, true, true, true, true, true, true, true, true, true, true, true, true, true, true, true, true, true, true, true, true, true, true, true, false, false, false, false, false, false, false, false, false] rfl rfl (by kernel_rfl) (fun _ _ _ h => h) (Or.inl ⟨by rfl, ?_⟩) ?_ ?_
            rotate_left
            · intro w'
              go_simp
              with_reducible rfl
            rotate_left
            · simp only [Act.put, List.setIfInBounds_toArray, List.set_cons_zero, List.set_cons_succ, i64_w, i32_w]
              rfl
            refine pure_ (i := 27) (N := some 115) (v := ?_) (a' := ?_) #[true, true, true, true, true, true, true, true, true, true, true, true, true, true, true, true, true, true, true, true, true, true, true, true, true, true, true, true, false, false, false, false, false, false, false, false] rfl rfl (by kernel_rfl) (fun _ _ _ h => h) (Or.inl ⟨by rfl, ?_⟩) ?_ ?_
            rotate_left
            · intro w'
              go_simp
              with_reducible rfl
            rotate_left
            · simp only [Act.put, List.setIfInBounds_toArray, List.set_cons_zero, List.set_cons_succ, i64_w, i32_w]
              rfl
            refine one_ (i := 28) (N := some 116) #[true, true, true, true, true, true, true, true, true, true, true, true, true, true, true, true, true, true, true, true, true, true, true, true, true, true, true, true, true, false, false, false, false, false, false, false] rfl rfl (by kernel_rfl) (by decide) (fun K hK => ?_)
            refine goes_ Try.func20 (by kernel_rfl) rfl #[.pointer (some ⟨gi, 0, none⟩)] (by rfl) rfl rfl (by simp only [List.map_toArray, List.map_cons, List.map_nil]; rfl) ?_
            with_reducible refine (in_doneD 0 w.heap.size gi s false _ HD.out hHeld.2.1).mono ?_
            rintro e w528 ⟨rfl, hw⟩
            refine ⟨_, rfl, ?_⟩
            subst w528
            refine hK.out _ _ ⟨hHeld.1, hHeld.2.1, hHeld.2.2.1, hHeld.2.2.2⟩ (fun hHeld => ?_)
            clear hK K
            refine norm_ (a' := ?_) ?_ ?_
            rotate_left
            · show Act.put _ (some 116) _ = _
              simp only [Act.put, List.setIfInBounds_toArray, List.set_cons_zero, List.set_cons_succ, i64_w, i32_w]
              rfl
            refine pure_ (i := 29) (N := some 117) (v := ?_) (a' := ?_) #[true, true, true, true, true, true, true, true, true, true, true, true, true, true, true, true, true, true, true, true, true, true, true, true, true, true, true, true, true, true, false, false, false, false, false, false] rfl rfl (by kernel_rfl) (fun _ _ _ h => h) (Or.inl ⟨by rfl, ?_⟩) ?_ ?_
            rotate_left
            · intro w'
              go_simp
              with_reducible rfl
            rotate_left
            · simp only [Act.put, List.setIfInBounds_toArray, List.set_cons_zero, List.set_cons_succ, i64_w, i32_w]
              rfl
            refine pure_ (i := 30) (N := some 118) (v := ?_) (a' := ?_) #[true, true, true, true, true, true, true, true, true, true, true, true, true, true, true, true, true, true, true, true, true, true, true, true, true, true, true, true, true, true, true, false, false, false, false, false] rfl rfl (by kernel_rfl) (fun _ _ _ h => h) (Or.inl ⟨by rfl, ?_⟩) ?_ ?_
            rotate_left
            · intro w'
              go_simp
              with_reducible rfl
            rotate_left
            · simp only [Act.put, List.setIfInBounds_toArray, List.set_cons_zero, List.set_cons_succ, i64_w, i32_w]
              rfl
            refine pure_ (i := 31) (N := some 119) (v := undef) (a' := ?_) #[true, true, true, true, true, true, true, true, true, true, true, true, true, true, true, true, true, true, true, true, true, true, true, true, true, true, true, true, true, true, true, true, false, false, false, false] rfl rfl (by kernel_rfl) (fun _ _ _ h => h) (Or.inr ⟨by rfl, rfl⟩) ?_ ?_
            rotate_left
            · simp only [Act.put, List.setIfInBounds_toArray, List.set_cons_zero, List.set_cons_succ, i64_w, i32_w]
              rfl
            refine pure_ (i := 32) (N := some 120) (v := undef) (a' := ?_) #[true, true, true, true, true, true, true, true, true, true, true, true, true, true, true, true, true, true, true, true, true, true, true, true, true, true, true, true, true, true, true, true, true, false, false, false] rfl rfl (by kernel_rfl) (fun _ _ _ h => h) (Or.inr ⟨by rfl, rfl⟩) ?_ ?_
            rotate_left
            · simp only [Act.put, List.setIfInBounds_toArray, List.set_cons_zero, List.set_cons_succ, i64_w, i32_w]
              rfl
            refine pure_ (i := 33) (N := some 121) (v := undef) (a' := ?_) #[true, true, true, true, true, true, true, true, true, true, true, true, true, true, true, true, true, true, true, true, true, true, true, true, true, true, true, true, true, true, true, true, true, true, false, false] rfl rfl (by kernel_rfl) (fun _ _ _ h => h) (Or.inr ⟨by rfl, rfl⟩) ?_ ?_
            rotate_left
            · simp only [Act.put, List.setIfInBounds_toArray, List.set_cons_zero, List.set_cons_succ, i64_w, i32_w]
              rfl
            refine pure_ (i := 34) (N := some 122) (v := ?_) (a' := ?_) #[true, true, true, true, true, true, true, true, true, true, true, true, true, true, true, true, true, true, true, true, true, true, true, true, true, true, true, true, true, true, true, true, true, true, true, false] rfl rfl (by kernel_rfl) (fun _ _ _ h => h) (Or.inl ⟨by rfl, ?_⟩) ?_ ?_
            rotate_left
            · intro w'
              go_simp
              with_reducible rfl
            rotate_left
            · simp only [Act.put, List.setIfInBounds_toArray, List.set_cons_zero, List.set_cons_succ, i64_w, i32_w]
              rfl
            refine pure_ (i := 35) (N := some 123) (v := ?_) (a' := ?_) #[true, true, true, true, true, true, true, true, true, true, true, true, true, true, true, true, true, true, true, true, true, true, true, true, true, true, true, true, true, true, true, true, true, true, true, true] rfl rfl (by kernel_rfl) (fun _ _ _ h => h) (Or.inl ⟨by rfl, ?_⟩) ?_ ?_
            rotate_left
            · intro w'
              go_simp
              with_reducible rfl
            rotate_left
            · simp only [Act.put, List.setIfInBounds_toArray, List.set_cons_zero, List.set_cons_succ, i64_w, i32_w]
              rfl
            refine done_ (by kernel_rfl) ?_
            have HB2 := Aside0.mk hHeld.1
            have HRD2 : Aside0 (RD wc w.heap.size gi gr gB (i + 1)) := ⟨HRD.out⟩
            clear HRD HI HLk HB c0 c1 HD hE
            go_wp2_with fail
            go_roundg kk
            case measure => omega
            case rel => exact ⟨i + 1, by omega, by go_num, ⟨rd_drew HRD2.out⟩, HB2⟩
        · subst hb
          have he := HI.out.2.2 rfl
          subst he
          have HD : Aside0 (doneV nix true = 8) := ⟨by unfold doneV; rw [if_pos rfl]⟩
          have hz : (nix.size : Int) = 0 := rfl
          go_wp2_with fail
          refine start_ (n := 36) (S := fun w' => Below w.heap.size w w' ∧ InAt w' w.heap.size gi nix true ∧ w'.cell? ⟨gr, 0, none⟩ = some (.string sr) ∧ w'.cell? ⟨gr, 1, none⟩ = some (.bool true)) (ds := []) #[false, false, false, false, false, false, false, false, false, false, false, false, false, false, false, false, false, false, false, false, false, false, false, false, false, false, false, false, false, false, false, false, false, false, false, false] (by kernel_rfl) rfl rfl ⟨below_drew1 HB.out, HI.out.keep (below_drew1 (Below.refl _ _)), c0, c1⟩ (fun hHeld => ?_)
          refine pure_ (i := 0) (N := some 88) (v := ?_) (a' := ?_) #[true, false, false, false, false, false, false, false, false, false, false, false, false, false, false, false, false, false, false, false, false, false, false, false, false, false, false, false, false, false, false, false, false, false, false, false] rfl rfl (by kernel_rfl) (fun _ _ _ h => h) (Or.inl ⟨by rfl, ?_⟩) ?_ ?_
          rotate_left
          · intro w'
            go_simp
            with_reducible rfl
          rotate_left
          · simp only [Act.put, List.setIfInBounds_toArray, List.set_cons_zero, List.set_cons_succ, i64_w, i32_w]
            rfl
          refine pure_ (i := 1) (N := some 89) (v := ?_) (a' := ?_) #[true, true, false, false, false, false, false, false, false, false, false, false, false, false, false, false, false, false, false, false, false, false, false, false, false, false, false, false, false, false, false, false, false, false, false, false] rfl rfl (by kernel_rfl) (fun _ _ _ h => h) (Or.inl ⟨by rfl, ?_⟩) ?_ ?_
          rotate_left
          · intro w'
            go_simp
            with_reducible rfl
          rotate_left
          · simp only [Act.put, List.setIfInBounds_toArray, List.set_cons_zero, List.set_cons_succ, i64_w, i32_w]
            rfl
          refine pure_ (i := 2) (N := some 90) (v := ?_) (a' := ?_) #[true, true, true, false, false, false, false, false, false, false, false, false, false, false, false, false, false, false, false, false, false, false, false, false, false, false, false, false, false, false, false, false, false, false, false, false] rfl rfl (by kernel_rfl) (fun _ _ _ h => h) (Or.inl ⟨by rfl, ?_⟩) ?_ ?_
          rotate_left
          · intro w'
            go_simp
            with_reducible rfl
          rotate_left
          · simp only [Act.put, List.setIfInBounds_toArray, List.set_cons_zero, List.set_cons_succ, i64_w, i32_w]
            rfl
          refine pure_ (i := 3) (N := some 91) (v := ?_) (a' := ?_) #[true, true, true, true, false, false, false, false, false, false, false, false, false, false, false, false, false, false, false, false, false, false, false, false, false, false, false, false, false, false, false, false, false, false, false, false] rfl rfl (by kernel_rfl) (fun _ _ _ h => h) (Or.inl ⟨by rfl, ?_⟩) ?_ ?_
          rotate_left
          · intro w'
            go_simp
            with_reducible rfl
          rotate_left
          · simp only [Act.put, List.setIfInBounds_toArray, List.set_cons_zero, List.set_cons_succ, i64_w, i32_w]
            rfl
          refine pure_ (i := 5) (N := some 93) (v := ?_) (a' := ?_) #[true, true, true, true, false, true, false, false, false, false, false, false, false, false, false, false, false, false, false, false, false, false, false, false, false, false, false, false, false, false, false, false, false, false, false, false] rfl rfl (by kernel_rfl) (fun _ _ _ h => h) (Or.inl ⟨by rfl, ?_⟩) ?_ ?_
          rotate_left
          · intro w'
            go_simp
            with_reducible rfl
          rotate_left
          · simp only [Act.put, List.setIfInBounds_toArray, List.set_cons_zero, List.set_cons_succ, i64_w, i32_w]
            rfl
          refine one_ (i := 4) (N := some 92) #[true, true, true, true, true, true, false, false, false, false, false, false, false, false, false, false, false, false, false, false, false, false, false, false, false, false, false, false, false, false, false, false, false, false, false, false] rfl rfl (by kernel_rfl) (by decide) (fun K hK => ?_)
          refine goes_ Try.func36 (by kernel_rfl) rfl #[.pointer (some ⟨gi, 0, none⟩)] (by rfl) rfl rfl (by simp only [List.map_toArray, List.map_cons, List.map_nil]; rfl) ?_
          with_reducible refine (in_left w.heap.size gi nix true _ hHeld.2.1).mono ?_
          rintro e w50 ⟨rfl, hw⟩
          refine ⟨_, rfl, ?_⟩
          subst w50
          refine hK.out _ _ ⟨hHeld.1, hHeld.2.1, hHeld.2.2.1, hHeld.2.2.2⟩ (fun hHeld => ?_)
          clear hK K
          refine norm_ (a' := ?_) ?_ ?_
          rotate_left
          · show Act.put _ (some 92) _ = _
            simp only [Act.put, List.setIfInBounds_toArray, List.set_cons_zero, List.set_cons_succ, i64_w, i32_w]
            rfl
          refine pure_ (i := 6) (N := some 94) (v := ?_) (a' := ?_) #[true, true, true, true, true, true, true, false, false, false, false, false, false, false, false, false, false, false, false, false, false, false, false, false, false, false, false, false, false, false, false, false, false, false, false, false] rfl rfl (by kernel_rfl) (fun _ _ _ h => h) (Or.inl ⟨by rfl, ?_⟩) ?_ ?_
          rotate_left
          · intro w'
            go_simp
            with_reducible rfl
          rotate_left
          · simp only [Act.put, List.setIfInBounds_toArray, List.set_cons_zero, List.set_cons_succ, i64_w, i32_w]
            rfl
          refine pure_ (i := 7) (N := some 95) (v := ?_) (a' := ?_) #[true, true, true, true, true, true, true, true, false, false, false, false, false, false, false, false, false, false, false, false, false, false, false, false, false, false, false, false, false, false, false, false, false, false, false, false] rfl rfl (by kernel_rfl) (fun _ _ _ h => h) (Or.inl ⟨by rfl, ?_⟩) ?_ ?_
          rotate_left
          · intro w'
            go_simp
            with_reducible rfl
          rotate_left
          · simp only [Act.put, List.setIfInBounds_toArray, List.set_cons_zero, List.set_cons_succ, i64_w, i32_w]
            rfl
          refine pure_ (i := 8) (N := some 96) (v := ?_) (a' := ?_) #[true, true, true, true, true, true, true, true, true, false, false, false, false, false, false, false, false, false, false, false, false, false, false, false, false, false, false, false, false, false, false, false, false, false, false, false] rfl rfl (by kernel_rfl) (fun _ _ _ h => h) (Or.inl ⟨by rfl, ?_⟩) ?_ ?_
          rotate_left
          · intro w'
            go_simp
            with_reducible rfl
          rotate_left
          · simp only [Act.put, List.setIfInBounds_toArray, List.set_cons_zero, List.set_cons_succ, i64_w, i32_w]
            rfl
          refine pure_ (i := 9) (N := some 97) (v := ?_) (a' := ?_) #[true, true, true, true, true, true, true, true, true, true, false, false, false, false, false, false, false, false, false, false, false, false, false, false, false, false, false, false, false, false, false, false, false, false, false, false] rfl rfl (by kernel_rfl) (fun _ _ _ h => h) (Or.inl ⟨by rfl, ?_⟩) ?_ ?_
          rotate_left
          · intro w'
            go_simp
            with_reducible rfl
          rotate_left
          · simp only [Act.put, List.setIfInBounds_toArray, List.set_cons_zero, List.set_cons_succ, i64_w, i32_w]
            rfl
          refine pure_ (i := 12) (N := some 100) (v := ?_) (a' := ?_) #[true, true, true, true, true, true, true, true, true, true, false, false, true, false, false, false, false, false, false, false, false, false, false, false, false, false, false, false, false, false, false, false, false, false, false, false] rfl rfl (by kernel_rfl) (fun _ _ _ h => h) (Or.inl ⟨by rfl, ?_⟩) ?_ ?_
          rotate_left
          · intro w'
            go_simp
            with_reducible rfl
          rotate_left
          · simp only [Act.put, List.setIfInBounds_toArray, List.set_cons_zero, List.set_cons_succ, i64_w, i32_w]
            rfl
          refine pure_ (i := 13) (N := some 101) (v := ?_) (a' := ?_) #[true, true, true, true, true, true, true, true, true, true, false, false, true, true, false, false, false, false, false, false, false, false, false, false, false, false, false, false, false, false, false, false, false, false, false, false] rfl rfl (by kernel_rfl) (fun _ _ _ h => h) (Or.inl ⟨by rfl, ?_⟩) ?_ ?_
          rotate_left
          · intro w'
            go_simp
            with_reducible rfl
          rotate_left
          · simp only [Act.put, List.setIfInBounds_toArray, List.set_cons_zero, List.set_cons_succ, i64_w, i32_w]
            rfl
          refine pure_ (i := 14) (N := some 102) (v := ?_) (a' := ?_) #[true, true, true, true, true, true, true, true, true, true, false, false, true, true, true, false, false, false, false, false, false, false, false, false, false, false, false, false, false, false, false, false, false, false, false, false] rfl rfl (by kernel_rfl) (fun _ _ _ h => h) (Or.inl ⟨by rfl, ?_⟩) ?_ ?_
          rotate_left
          · intro w'
            go_simp
            with_reducible rfl
          rotate_left
          · simp only [Act.put, List.setIfInBounds_toArray, List.set_cons_zero, List.set_cons_succ, i64_w, i32_w]
            rfl
          refine take_ (i := 15) (N := some 103) (v := ?_) (a' := ?_) #[true, true, true, true, true, true, true, true, true, true, false, false, true, true, true, true, false, false, false, false, false, false, false, false, false, false, false, false, false, false, false, false, false, false, false, false] rfl rfl (by kernel_rfl) (fun _ _ _ h => h) (Or.inl ⟨by rfl, ?_⟩) hHeld ?_ ?_
          rotate_left
          · rintro w' ⟨s0, s1, s2, s3⟩
            go_simp
            with_reducible rfl
          rotate_left
          · simp only [Act.put, List.setIfInBounds_toArray, List.set_cons_zero, List.set_cons_succ, i64_w, i32_w]
            rfl
          refine pure_ (i := 16) (N := some 104) (v := ?_) (a' := ?_) #[true, true, true, true, true, true, true, true, true, true, false, false, true, true, true, true, true, false, false, false, false, false, false, false, false, false, false, false, false, false, false, false, false, false, false, false] rfl rfl (by kernel_rfl) (fun _ _ _ h => h) (Or.inl ⟨by rfl, ?_⟩) ?_ ?_
          rotate_left
          · intro w'
            go_simp
            with_reducible rfl
          rotate_left
          · simp only [Act.put, List.setIfInBounds_toArray, List.set_cons_zero, List.set_cons_succ, i64_w, i32_w]
            rfl
          refine one_ (i := 10) (N := some 98) #[true, true, true, true, true, true, true, true, true, true, true, false, true, true, true, true, true, false, false, false, false, false, false, false, false, false, false, false, false, false, false, false, false, false, false, false] rfl rfl (by kernel_rfl) (by decide) (fun K hK => ?_)
          refine goes_ Try.func20 (by kernel_rfl) rfl #[.pointer (some ⟨gi, 0, none⟩)] (by rfl) rfl rfl (by simp only [List.map_toArray, List.map_cons, List.map_nil]; rfl) ?_
          with_reducible refine (in_doneD 8 w.heap.size gi nix true _ HD.out hHeld.2.1).mono ?_
          rintro e w510 ⟨rfl, hw⟩
          refine ⟨_, rfl, ?_⟩
          subst w510
          refine hK.out _ _ ⟨hHeld.1, hHeld.2.1, hHeld.2.2.1, hHeld.2.2.2⟩ (fun hHeld => ?_)
          clear hK K
          refine norm_ (a' := ?_) ?_ ?_
          rotate_left
          · show Act.put _ (some 98) _ = _
            simp only [Act.put, List.setIfInBounds_toArray, List.set_cons_zero, List.set_cons_succ, i64_w, i32_w]
            rfl
          refine pure_ (i := 11) (N := some 99) (v := ?_) (a' := ?_) #[true, true, true, true, true, true, true, true, true, true, true, true, true, true, true, true, true, false, false, false, false, false, false, false, false, false, false, false, false, false, false, false, false, false, false, false] rfl rfl (by kernel_rfl) (fun _ _ _ h => h) (Or.inl ⟨by rfl, ?_⟩) ?_ ?_
          rotate_left
          · intro w'
            go_simp
            with_reducible rfl
          rotate_left
          · simp only [Act.put, List.setIfInBounds_toArray, List.set_cons_zero, List.set_cons_succ, i64_w, i32_w]
            rfl
          refine pure_ (i := 17) (N := some 105) (v := ?_) (a' := ?_) #[true, true, true, true, true, true, true, true, true, true, true, true, true, true, true, true, true, true, false, false, false, false, false, false, false, false, false, false, false, false, false, false, false, false, false, false] rfl rfl (by kernel_rfl) (fun _ _ _ h => h) (Or.inl ⟨by rfl, ?_⟩) ?_ ?_
          rotate_left
          · intro w'
            go_simp
            with_reducible rfl
          rotate_left
          · simp only [Act.put, List.setIfInBounds_toArray, List.set_cons_zero, List.set_cons_succ, i64_w, i32_w]
            rfl
          refine pure_ (i := 18) (N := some 106) (v := undef) (a' := ?_) #[true, true, true, true, true, true, true, true, true, true, true, true, true, true, true, true, true, true, true, false, false, false, false, false, false, false, false, false, false, false, false, false, false, false, false, false] rfl rfl (by kernel_rfl) (fun _ _ _ h => h) (Or.inr ⟨by rfl, rfl⟩) ?_ ?_
          rotate_left
          · simp only [Act.put, List.setIfInBounds_toArray, List.set_cons_zero, List.set_cons_succ, i64_w, i32_w]
            rfl
          refine pure_ (i := 19) (N := some 107) (v := undef) (a' := ?_) #[true, true, true, true, true, true, true, true, true, true, true, true, true, true, true, true, true, true, true, true, false, false, false, false, false, false, false, false, false, false, false, false, false, false, false, false] rfl rfl (by kernel_rfl) (fun _ _ _ h => h) (Or.inr ⟨by rfl, rfl⟩) ?_ ?_
          rotate_left
          · simp only [Act.put, List.setIfInBounds_toArray, List.set_cons_zero, List.set_cons_succ, i64_w, i32_w]
            rfl
          refine pure_ (i := 20) (N := some 108) (v := undef) (a' := ?_) #[true, true, true, true, true, true, true, true, true, true, true, true, true, true, true, true, true, true, true, true, true, false, false, false, false, false, false, false, false, false, false, false, false, false, false, false] rfl rfl (by kernel_rfl) (fun _ _ _ h => h) (Or.inr ⟨by rfl, rfl⟩) ?_ ?_
          rotate_left
          · simp only [Act.put, List.setIfInBounds_toArray, List.set_cons_zero, List.set_cons_succ, i64_w, i32_w]
            rfl
          refine pure_ (i := 21) (N := some 109) (v := undef) (a' := ?_) #[true, true, true, true, true, true, true, true, true, true, true, true, true, true, true, true, true, true, true, true, true, true, false, false, false, false, false, false, false, false, false, false, false, false, false, false] rfl rfl (by kernel_rfl) (fun _ _ _ h => h) (Or.inr ⟨by rfl, rfl⟩) ?_ ?_
          rotate_left
          · simp only [Act.put, List.setIfInBounds_toArray, List.set_cons_zero, List.set_cons_succ, i64_w, i32_w]
            rfl
          refine pure_ (i := 22) (N := some 110) (v := undef) (a' := ?_) #[true, true, true, true, true, true, true, true, true, true, true, true, true, true, true, true, true, true, true, true, true, true, true, false, false, false, false, false, false, false, false, false, false, false, false, false] rfl rfl (by kernel_rfl) (fun _ _ _ h => h) (Or.inr ⟨by rfl, rfl⟩) ?_ ?_
          rotate_left
          · simp only [Act.put, List.setIfInBounds_toArray, List.set_cons_zero, List.set_cons_succ, i64_w, i32_w]
            rfl
          refine pure_ (i := 23) (N := some 111) (v := ?_) (a' := ?_) #[true, true, true, true, true, true, true, true, true, true, true, true, true, true, true, true, true, true, true, true, true, true, true, true, false, false, false, false, false, false, false, false, false, false, false, false] rfl rfl (by kernel_rfl) (fun _ _ _ h => h) (Or.inl ⟨by rfl, ?_⟩) ?_ ?_
          rotate_left
          · intro w'
            go_simp
            with_reducible rfl
          rotate_left
          · simp only [Act.put, List.setIfInBounds_toArray, List.set_cons_zero, List.set_cons_succ, i64_w, i32_w]
            rfl
          refine pure_ (i := 24) (N := some 112) (v := ?_) (a' := ?_) #[true, true, true, true, true, true, true, true, true, true, true, true, true, true, true, true, true, true, true, true, true, true, true, true, true, false, false, false, false, false, false, false, false, false, false, false] rfl rfl (by kernel_rfl) (fun _ _ _ h => h) (Or.inl ⟨by rfl, ?_⟩) ?_ ?_
          rotate_left
          · intro w'
            go_simp
            with_reducible rfl
          rotate_left
          · simp only [Act.put, List.setIfInBounds_toArray, List.set_cons_zero, List.set_cons_succ, i64_w, i32_w]
            rfl
          refine pure_ (i := 25) (N := some 113) (v := ?_) (a' := ?_) #[true, true, true, true, true, true, true, true, true, true, true, true, true, true, true, true, true, true, true, true, true, true, true, true, true, true, false, false, false, false, false, false, false, false, false, false] rfl rfl (by kernel_rfl) (fun _ _ _ h => h) (Or.inl ⟨by rfl, ?_⟩) ?_ ?_
          rotate_left
          · intro w'
            go_simp
            with_reducible rfl
          rotate_left
          · simp only [Act.put, List.setIfInBounds_toArray, List.set_cons_zero, List.set_cons_succ, i64_w, i32_w]
            rfl
          refine pure_ (i := 26) (N := some 114) (v := ?_) (a' := ?_) #[true, true, true, true, true, true, true, true, true, true, true, true, true, true, true, true, true, true, true, true, true, true, true, true, true, true, true, false, false, false, false, false, false, false, false, false] rfl rfl (by kernel_rfl) (fun _ _ _ h => h) (Or.inl ⟨by rfl, ?_⟩) ?_ ?_
          rotate_left
          · intro w'
            go_simp
            with_reducible rfl
          rotate_left
          · simp only [Act.put, List.setIfInBounds_toArray, List.set_cons_zero, List.set_cons_succ, i64_w, i32_w]
            rfl
          refine pure_ (i := 27) (N := some 115) (v := ?_) (a' := ?_) #[true, true, true, true, true, true, true, true, true, true, true, true, true, true, true, true, true, true, true, true, true, true, true, true, true, true, true, true, false, false, false, false, false, false, false, false] rfl rfl (by kernel_rfl) (fun _ _ _ h => h) (Or.inl ⟨by rfl, ?_⟩) ?_ ?_
          rotate_left
          · intro w'
            go_simp
            with_reducible rfl
          rotate_left
          · simp only [Act.put, List.setIfInBounds_toArray, List.set_cons_zero, List.set_cons_succ, i64_w, i32_w]
            rfl
          refine one_ (i := 28) (N := some 116) #[true, true, true, true, true, true, true, true, true, true, true, true, true, true, true, true, true, true, true, true, true, true, true, true, true, true, true, true, true, false, false, false, false, false, false, false] rfl rfl (by kernel_rfl) (by decide) (fun K hK => ?_)
          refine goes_ Try.func20 (by kernel_rfl) rfl #[.pointer (some ⟨gi, 0, none⟩)] (by rfl) rfl rfl (by simp only [List.map_toArray, List.map_cons, List.map_nil]; rfl) ?_
          with_reducible refine (in_doneD 8 w.heap.size gi nix true _ HD.out hHeld.2.1).mono ?_
          rintro e w528 ⟨rfl, hw⟩
          refine ⟨_, rfl, ?_⟩
          subst w528
          refine hK.out _ _ ⟨hHeld.1, hHeld.2.1, hHeld.2.2.1, hHeld.2.2.2⟩ (fun hHeld => ?_)
          clear hK K
          refine norm_ (a' := ?_) ?_ ?_
          rotate_left
          · show Act.put _ (some 116) _ = _
            simp only [Act.put, List.setIfInBounds_toArray, List.set_cons_zero, List.set_cons_succ, i64_w, i32_w]
            rfl
          refine pure_ (i := 29) (N := some 117) (v := ?_) (a' := ?_) #[true, true, true, true, true, true, true, true, true, true, true, true, true, true, true, true, true, true, true, true, true, true, true, true, true, true, true, true, true, true, false, false, false, false, false, false] rfl rfl (by kernel_rfl) (fun _ _ _ h => h) (Or.inl ⟨by rfl, ?_⟩) ?_ ?_
          rotate_left
          · intro w'
            go_simp
            with_reducible rfl
          rotate_left
          · simp only [Act.put, List.setIfInBounds_toArray, List.set_cons_zero, List.set_cons_succ, i64_w, i32_w]
            rfl
          refine pure_ (i := 30) (N := some 118) (v := ?_) (a' := ?_) #[true, true, true, true, true, true, true, true, true, true, true, true, true, true, true, true, true, true, true, true, true, true, true, true, true, true, true, true, true, true, true, false, false, false, false, false] rfl rfl (by kernel_rfl) (fun _ _ _ h => h) (Or.inl ⟨by rfl, ?_⟩) ?_ ?_
          rotate_left
          · intro w'
            go_simp
            with_reducible rfl
          rotate_left
          · simp only [Act.put, List.setIfInBounds_toArray, List.set_cons_zero, List.set_cons_succ, i64_w, i32_w]
            rfl
          refine pure_ (i := 31) (N := some 119) (v := ?_) (a' := ?_) #[true, true, true, true, true, true, true, true, true, true, true, true, true, true, true, true, true, true, true, true, true, true, true, true, true, true, true, true, true, true, true, true, false, false, false, false] rfl rfl (by kernel_rfl) (fun _ _ _ h => h) (Or.inl ⟨by rfl, ?_⟩) ?_ ?_
          rotate_left
          · intro w'
            go_simp
            with_reducible rfl
          rotate_left
          · simp only [Act.put, List.setIfInBounds_toArray, List.set_cons_zero, List.set_cons_succ, i64_w, i32_w]
            rfl
          refine one_ (i := 32) (N := some 120) #[true, true, true, true, true, true, true, true, true, true, true, true, true, true, true, true, true, true, true, true, true, true, true, true, true, true, true, true, true, true, true, true, true, false, false, false] rfl rfl (by kernel_rfl) (by decide) (fun K hK => ?_)
          refine goes_ Try.func20 (by kernel_rfl) rfl #[.pointer (some ⟨gi, 0, none⟩)] (by rfl) rfl rfl (by simp only [List.map_toArray, List.map_cons, List.map_nil]; rfl) ?_
          with_reducible refine (in_doneD 8 w.heap.size gi nix true _ HD.out hHeld.2.1).mono ?_
          rintro e w532 ⟨rfl, hw⟩
          refine ⟨_, rfl, ?_⟩
          subst w532
          refine hK.out _ _ ⟨hHeld.1, hHeld.2.1, hHeld.2.2.1, hHeld.2.2.2⟩ (fun hHeld => ?_)
          clear hK K
          refine norm_ (a' := ?_) ?_ ?_
          rotate_left
          · show Act.put _ (some 120) _ = _
            simp only [Act.put, List.setIfInBounds_toArray, List.set_cons_zero, List.set_cons_succ, i64_w, i32_w]
            rfl
          refine pure_ (i := 33) (N := some 121) (v := ?_) (a' := ?_) #[true, true, true, true, true, true, true, true, true, true, true, true, true, true, true, true, true, true, true, true, true, true, true, true, true, true, true, true, true, true, true, true, true, true, false, false] rfl rfl (by kernel_rfl) (fun _ _ _ h => h) (Or.inl ⟨by rfl, ?_⟩) ?_ ?_
          rotate_left
          · intro w'
            go_simp
            with_reducible rfl
          rotate_left
          · simp only [Act.put, List.setIfInBounds_toArray, List.set_cons_zero, List.set_cons_succ, i64_w, i32_w]
            rfl
          refine pure_ (i := 34) (N := some 122) (v := ?_) (a' := ?_) #[true, true, true, true, true, true, true, true, true, true, true, true, true, true, true, true, true, true, true, true, true, true, true, true, true, true, true, true, true, true, true, true, true, true, true, false] rfl rfl (by kernel_rfl) (fun _ _ _ h => h) (Or.inl ⟨by rfl, ?_⟩) ?_ ?_
          rotate_left
          · intro w'
            go_simp
            with_reducible rfl
          rotate_left
          · simp only [Act.put, List.setIfInBounds_toArray, List.set_cons_zero, List.set_cons_succ, i64_w, i32_w]
            rfl
          refine pure_ (i := 35) (N := some 123) (v := ?_) (a' := ?_) #[true, true, true, true, true, true, true, true, true, true, true, true, true, true, true, true, true, true, true, true, true, true, true, true, true, true, true, true, true, true, true, true, true, true, true, true] rfl rfl (by kernel_rfl) (fun _ _ _ h => h) (Or.inl ⟨by rfl, ?_⟩) ?_ ?_
          rotate_left
          · intro w'
            go_simp
            with_reducible rfl
          rotate_left
          · simp only [Act.put, List.setIfInBounds_toArray, List.set_cons_zero, List.set_cons_succ, i64_w, i32_w]
            rfl
          refine done_ (by kernel_rfl) ?_
          have HB2 := Aside0.mk hHeld.1
          have HRD2 : Aside0 (RD wc w.heap.size gi gr gB (i + 1)) := ⟨HRD.out⟩
          clear HRD HI HLk HB c0 c1 HD
          go_wp2_with fail
          go_roundg kk
          case measure => omega
          case rel => exact ⟨i + 1, by omega, by go_num, ⟨rd_drew HRD2.out⟩, HB2⟩
    · obtain rfl : i = l.length := by omega
      have hlt' : ¬ (l.length : Int) < (l.length : Int) := by omega
      obtain ⟨s, sr, b, LE, hlk, hi0, hf0, hk0, hle, hlx⟩ := HRD.out
      have HK := Aside0.mk hk0
      have HLE := Aside0.mk hle
      have HLX := Aside0.mk hlx
      clear hlk hi0 hf0 hk0 hle hlx HRD
      go_wp2_with fail
      refine (num_nil 1 (by decide) (by decide) _).mono ?_
      rintro e9 w41 ⟨rfl, hb⟩
      replace HB := Aside0.mk (below_step HB.out hb)
      replace HK := Aside0.mk (HK.out.keep hb)
      clear hb
      go_wp2_with fail
      refine (left_nil _).mono ?_
      rintro e9 w42 ⟨rfl, hb⟩
      replace HB := Aside0.mk (below_step HB.out hb)
      replace HK := Aside0.mk (HK.out.keep hb)
      clear hb
      go_wp2_with fail
      refine (ext_nil _).mono ?_
      rintro e9 w43 ⟨rfl, hb⟩
      replace HB := Aside0.mk (below_step HB.out hb)
      replace HK := Aside0.mk (HK.out.keep hb)
      clear hb
      go_wp2_with fail
      refine (text_nil _).mono ?_
      rintro e9 w44 ⟨rfl, hb⟩
      replace HB := Aside0.mk (below_step HB.out hb)
      replace HK := Aside0.mk (HK.out.keep hb)
      clear hb
      go_wp2_with fail
      refine (done_nil _).mono ?_
      rintro e9 w45 ⟨rfl, hb⟩
      replace HB := Aside0.mk (below_step HB.out hb)
      replace HK := Aside0.mk (HK.out.keep hb)
      clear hb
      go_wp2_with fail
      refine (kept_apart gB w.heap.size _ [] [] LE _ HK.out ⟨by simp, by simp⟩ ⟨by simp, by simp⟩ ⟨by have := HLE.out; have := H60.out; omega, fun x hx => by have := HLX.out x hx; omega⟩ HB.out.size).mono ?_
      rintro e9 w46 ⟨rfl, hb⟩
      go_wp2_with fail
      go_ret
      exact ⟨rfl, HB.out.trans hb⟩
theorem walk (B : ByteArray) (A : Option Addr) (c : Nat) (l : List OP) (w : World) (_ : B.size ≤ 140737488351232) (hc : l.length ≤ c) (hC : Kd.C k40 w A l.length l) :
    Calls Try.prog 5 #[.string B, .slice A l.length c] w fun e w' => e = .returned (.bool true) ∧ Below w.heap.size w w' := by
  by_cases h : 600 < (B.size : Int) ∨ (¬ 600 < (B.size : Int) ∧ 60 < (l.length : Int))
  · exact early B A l.length c w h
  · exact main B A c l w (by omega) (by omega) hC hc
end Go.Proofs.Ytacmfpkmcefcfaa.WOctetsRead
end
