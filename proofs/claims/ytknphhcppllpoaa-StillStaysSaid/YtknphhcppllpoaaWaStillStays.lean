/- StillStays, walked: whatever is written, a volume that is frozen shows what it was. -/
import Derived.Test.YtknphhcppllpoaaStays
import Derived.Test.YtknphhcppllpoaaSt5
import Derived.Test.YtknphhcppllpoaaSt5
namespace Go.Proofs.Ytknphhcppllpoaa.WStillStays
open Go.RowKit Go.Proofs.YtknphhcppllpoaaW.PrintWords Go.Proofs.YtknphhcppllpoaaW.PrintLast Go.Proofs.YtknphhcppllpoaaW.PrintMore Go.Proofs.Ytknphhcppllpoaa.A Go.Proofs.Ytknphhcppllpoaa.Hand
set_option linter.unusedVariables false
set_option linter.unusedSimpArgs false
attribute [local go_sem] max2_int min2_int max_two min_two max_three min_three max_four min_four
abbrev SO := S38
def Out (B : Int) (a : ByteArray) (n : Nat) : Prop := B < 1 ∨ (¬ B < 1 ∧ 64 < B) ∨ (¬ B < 1 ∧ ¬ 64 < B ∧ 600 < (a.size : Int)) ∨ (¬ B < 1 ∧ ¬ 64 < B ∧ ¬ 600 < (a.size : Int) ∧ 40 < (n : Int))
set_option maxRecDepth 100000 in
set_option maxHeartbeats 800000 in
theorem early (B : Int) (a : ByteArray) (A : Option Addr) (n c : Nat) (w : World) (h : Out B a n) :
    Calls Try.prog 4 #[.int .i64 B, .string a, .slice A n c] w fun e w' => e = .returned (.bool true) ∧ Below w.heap.size w w' := by
  rcases h with h | ⟨h0, h⟩ | ⟨h0, h1, h⟩ | ⟨h0, h1, h2, h⟩
  all_goals
    go_enter Try.func4, Try.ntmps4
    go_wp2_with (go_at_call 5; refine (alive5 _).mono ?_; rintro e w1 ⟨rfl, hB⟩)
    go_ret
    exact ⟨rfl, hB⟩
/-- What the volume and what is kept are behind the first so many acts. -/
def stL (l : List UInt8) (ops : List SO) : List UInt8 := ops.foldl (fun l o => wrV l o.f1 o.f2) l
def stE (l : List UInt8) (ops : List SO) : EL := (ops.foldl (fun (x : List UInt8 × EL) o => (wrV x.1 o.f1 o.f2, keV x.1 o.f1 o.f2 x.2)) (l, [])).2
theorem stL_eq (l : List UInt8) : ∀ (ops : List SO) (es : EL), (ops.foldl (fun (x : List UInt8 × EL) o => (wrV x.1 o.f1 o.f2, keV x.1 o.f1 o.f2 x.2)) (l, es)).1 = ops.foldl (fun l o => wrV l o.f1 o.f2) l := by
  intro ops
  induction ops generalizing l with
  | nil => intro es; rfl
  | cons o ops ih => intro es; exact ih (wrV l o.f1 o.f2) _
theorem st_snoc (l : List UInt8) (ops : List SO) (i : Nat) (h : i < ops.length) : stL l (ops.take (i + 1)) = wrV (stL l (ops.take i)) (rd_T38 ops i).f1 (rd_T38 ops i).f2 ∧ stE l (ops.take (i + 1)) = keV (stL l (ops.take i)) (rd_T38 ops i).f1 (rd_T38 ops i).f2 (stE l (ops.take i)) := by
  have hr : rd_T38 ops (i : Int) = ops[i] := by
    show ops.getD (i : Int).toNat _ = _
    rw [Int.toNat_natCast, List.getD_eq_getElem?_getD, List.getElem?_eq_getElem h]; rfl
  rw [hr]
  unfold stL stE
  rw [List.take_succ_eq_append_getElem h, List.foldl_append, List.foldl_append]
  refine ⟨rfl, ?_⟩
  show keV (List.foldl _ (l, []) (ops.take i)).1 _ _ _ = _
  rw [stL_eq]
theorem st_kept (l : List UInt8) (B : Nat) (hl : l.length = 8 * B) (ops : List SO) : ∀ i, i ≤ ops.length → KeptOf l (stL l (ops.take i)) B (stE l (ops.take i))
  | 0, _ => KeptOf.start l B hl
  | i + 1, h => by
    obtain ⟨a, b⟩ := st_snoc l ops i (by omega)
    rw [a, b]
    exact (st_kept l B hl ops i (by omega)).step _ _
set_option maxRecDepth 100000 in
set_option maxHeartbeats 6400000 in
theorem main (B : Nat) (a : ByteArray) (A : Option Addr) (c : Nat) (ops : List SO) (w : World) (h0 : 1 ≤ B) (h1 : B ≤ 64) (h2 : a.size ≤ 600) (h3 : ops.length ≤ 40) (hC : Kd.C k38 w A ops.length ops) :
    Calls Try.prog 4 #[.int .i64 B, .string a, .slice A ops.length c] w fun e w' => e = .returned (.bool true) ∧ Below w.heap.size w w' := by
  have n0 : ¬ (B : Int) < 1 := by omega
  have n1 : ¬ 64 < (B : Int) := by omega
  have n2 : ¬ 600 < (a.size : Int) := by omega
  have n3 : ¬ 40 < (ops.length : Int) := by omega
  have i0 : (1 : Int) ≤ (B : Int) := by omega
  have i1 : (B : Int) ≤ 64 := by omega
  have i2 : (a.size : Int) ≤ 600 := by omega
  have i3 : (ops.length : Int) ≤ 40 := by omega
  have h0' := Aside0.mk h0
  have h1' := Aside0.mk h1
  have h3' := Aside0.mk h3
  have HB0 := Aside0.mk (Below.refl w.heap.size w)
  have HO := Aside0.mk hC
  have hmm := @run_makeMap Try.prog
  clear h0 h1 h2 h3 hC
  go_enter Try.func4, Try.ntmps4
  go_wp2_with fail
  refine (alive5 _).mono ?_
  rintro e w1 ⟨rfl, hB⟩
  have HB1 := Aside0.mk (below_step HB0.out hB)
  clear hB HB0
  go_wp2_with fail
  refine (film_new B h0'.out h1'.out _).mono ?_
  rintro e w2 ⟨gf, q, rfl, hg, hq, hf, hB⟩
  have HB2 := Aside0.mk (below_step HB1.out hB)
  have HF2 := Aside0.mk hf
  have Hg : Aside0 (w.heap.size ≤ gf ∧ w.heap.size ≤ q) := ⟨by have := HB1.out.size; omega⟩
  clear hB HB1 hf hg hq
  have hl0 := Aside0.mk (show (List.replicate (8 * B) (0 : UInt8)).length = 8 * B from List.length_replicate)
  generalize List.replicate (8 * B) (0 : UInt8) = l0 at *
  go_upto_region 6 with (fail)
  go_cut [] (fun wc => ∃ l1 : List UInt8, Aside0 (l1.length = 8 * B) ∧ Aside0 (FilmAt wc gf q l1) ∧ Aside0 (Below w.heap.size w wc))
  case first =>
    have hcases : (B : Int) * 8 < (a.size : Int) ∨ ¬ (B : Int) * 8 < (a.size : Int) := by omega
    rcases hcases with hcs | hcs
    all_goals
      go_wp2_with fail
      refine (film_write gf q l0 0 _ _ HF2.out (by have := hl0.out; have := h1'.out; omega) (by have := hl0.out; first | omega | (rw [ByteArray.size_extract]; omega))).mono ?_
      rintro e w3 ⟨rfl, hf, ho⟩
      obtain ⟨l1, hl1, hf⟩ : ∃ l1 : List UInt8, Aside0 (l1.length = 8 * B) ∧ FilmAt w3 gf q l1 := ⟨_, ⟨(spl_length _ _ _ (by rw [Array.length_toList]; have := hl0.out; first | (show 0 + a.size ≤ _; omega) | (show 0 + (a.extract 0 _).size ≤ _; rw [ByteArray.size_extract]; omega))).trans hl0.out⟩, hf⟩
      have HB3 := Aside0.mk (below_only HB2.out ho Hg.out.2)
      have HF3 := Aside0.mk hf
      clear hf ho HB2 HF2 hcs
      go_wp2_with fail
      go_meet
      case rel => exact ⟨l1, hl1, HF3, HB3⟩
  case rest =>
    obtain ⟨l1, hl1, HF3, HB3⟩ := hcut
    clear HB2 HF2
    go_wp2_with fail
    refine (film_copy gf q l1 _ HF3.out).mono ?_
    rintro e w4 ⟨gw, qw, rfl, hg, hq, hf, hB⟩
    have HB4 := Aside0.mk (below_step HB3.out hB)
    have HF4 := Aside0.mk (HF3.out.keep hB)
    have HW4 := Aside0.mk hf
    have Hw : Aside0 (w.heap.size ≤ gw ∧ w.heap.size ≤ qw ∧ gw ≠ q ∧ qw ≠ q) := ⟨by have := HB3.out.size; have := HF3.out.lt; omega⟩
    clear hB hf hg hq HB3 HF3
    go_wp2_with fail
    refine (still_new gf _).mono ?_
    rintro e w5 ⟨gs, m, rfl, hg, hm1, hs, hm, hB⟩
    have HB5 := Aside0.mk (below_step HB4.out hB)
    have HF5 := Aside0.mk (HF4.out.keep hB)
    have HW5 := Aside0.mk (HW4.out.keep hB)
    have HS5 := Aside0.mk hs
    have HM5 := Aside0.mk hm
    have Hs : Aside0 (w.heap.size ≤ gs ∧ w.heap.size ≤ m) := ⟨by have := HB4.out.size; omega⟩
    have Hne : Aside0 (gs ≠ q ∧ gs ≠ m ∧ gw ≠ m ∧ qw ≠ m ∧ gw ≠ gs ∧ qw ≠ gs) := ⟨(HF5.out.ne_blk hs (by decide) (by decide)).2.symm, hs.ne_map hm, (HW5.out.ne_map hm).1, (HW5.out.ne_map hm).2, (HW5.out.ne_blk hs (by decide) (by decide)).1, (HW5.out.ne_blk hs (by decide) (by decide)).2⟩
    have Hnf : Aside0 (gf ≠ gs ∧ gf ≠ m ∧ q ≠ gs ∧ q ≠ m) := ⟨(HF5.out.ne_blk hs (by decide) (by decide)).1, (HF5.out.ne_map hm).1, (HF5.out.ne_blk hs (by decide) (by decide)).2, (HF5.out.ne_map hm).2⟩
    clear hB HB4 HF4 HW4 hs hm hg hm1
    go_wp2_with fail
    go_loopg [12] ops.length (fun kq v wq => ∃ i : Nat, i + kq = ops.length ∧ v = .int .i64 (i : Int) ∧ Aside0 (Below w.heap.size w wq) ∧ Aside0 (FilmAt wq gf q (stL l1 (ops.take i))) ∧ Aside0 (MapAt wq m (stE l1 (ops.take i))) ∧ Aside0 (StillAt wq gs gf m 0) ∧ Aside0 (FilmAt wq gw qw l1))
    case atStart => exact ⟨0, by omega, rfl, HB5, HF5, HM5, HS5, HW5⟩
    case round =>
      obtain ⟨i, hi, rfl, HB, HF, HM, HS, HW⟩ := hrel
      have HK := Aside0.mk (fun h => st_kept l1 B hl1.out ops i h)
      by_cases hlt : i < ops.length
      · obtain ⟨kk, rfl⟩ : ∃ z, gk = z + 1 := ⟨gk - 1, by omega⟩
        obtain ⟨ad, e1, x0, x1, x2⟩ := at_T38 (Kd.C_below HO.out HB.out) (i : Int) (by omega) (by omega)
        subst e1
        rw [Int.toNat_natCast] at x0 x1 x2
        have hlt' : (i : Int) < (ops.length : Int) := by omega
        have hone := Aside0.mk (st_snoc l1 ops i hlt)
        have hLl := Aside0.mk (HK.out (by omega)).1
        clear HK
        generalize rd_T38 ops (i : Int) = X at *
        obtain ⟨K, N, S⟩ := X
        simp only at x0 x1 x2 hone
        generalize stL l1 (ops.take i) = L at *
        generalize stE l1 (ops.take i) = ES at *
        by_cases hS6 : 600 < (S.size : Int)
        · go_wp2_with fail
          go_ret
          exact ⟨rfl, HB.out⟩
        · go_wp2_with fail
          refine start_ (n := 12) (S := fun w' => w'.cell? ⟨(ad.add (i * 3)).block, (ad.add (i * 3)).off + 1, none⟩ = some (.int .i64 N) ∧ w'.cell? ⟨(ad.add (i * 3)).block, (ad.add (i * 3)).off + 2, none⟩ = some (.string S) ∧ Below w.heap.size w w' ∧ FilmAt w' gf q L ∧ MapAt w' m ES ∧ StillAt w' gs gf m 0 ∧ FilmAt w' gw qw l1) (ds := [11]) #[false, false, false, false, false, false, false, false, false, false, false, false] (by kernel_rfl) rfl rfl ⟨x1, x2, (below_drew1 HB.out), (HF.out.drew), (HM.out.drew), (HS.out.drew), (HW.out.drew)⟩ (fun hHeld => ?_)
          refine pure_ (i := 0) (N := some 99) (v := ?_) (a' := ?_) #[true, false, false, false, false, false, false, false, false, false, false, false] rfl rfl (by kernel_rfl) (fun _ _ _ h => h) (Or.inl ⟨by rfl, ?_⟩) ?_ ?_
          rotate_left
          · intro w'
            go_simp
            with_reducible rfl
          rotate_left
          · simp only [Act.put, List.setIfInBounds_toArray, List.set_cons_zero, List.set_cons_succ, i64_w, i32_w]
            rfl
          refine pure_ (i := 1) (N := some 100) (v := ?_) (a' := ?_) #[true, true, false, false, false, false, false, false, false, false, false, false] rfl rfl (by kernel_rfl) (fun _ _ _ h => h) (Or.inl ⟨by rfl, ?_⟩) ?_ ?_
          rotate_left
          · intro w'
            go_simp
            with_reducible rfl
          rotate_left
          · simp only [Act.put, List.setIfInBounds_toArray, List.set_cons_zero, List.set_cons_succ, i64_w, i32_w]
            rfl
          refine pure_ (i := 2) (N := some 101) (v := ?_) (a' := ?_) #[true, true, true, false, false, false, false, false, false, false, false, false] rfl rfl (by kernel_rfl) (fun _ _ _ h => h) (Or.inl ⟨by rfl, ?_⟩) ?_ ?_
          rotate_left
          · intro w'
            go_simp
            with_reducible rfl
          rotate_left
          · simp only [Act.put, List.setIfInBounds_toArray, List.set_cons_zero, List.set_cons_succ, i64_w, i32_w]
            rfl
          refine pure_ (i := 3) (N := some 102) (v := ?_) (a' := ?_) #[true, true, true, true, false, false, false, false, false, false, false, false] rfl rfl (by kernel_rfl) (fun _ _ _ h => h) (Or.inl ⟨by rfl, ?_⟩) ?_ ?_
          rotate_left
          · intro w'
            go_simp
            with_reducible rfl
          rotate_left
          · simp only [Act.put, List.setIfInBounds_toArray, List.set_cons_zero, List.set_cons_succ, i64_w, i32_w]
            rfl
          refine pure_ (i := 4) (N := some 103) (v := ?_) (a' := ?_) #[true, true, true, true, true, false, false, false, false, false, false, false] rfl rfl (by kernel_rfl) (fun _ _ _ h => h) (Or.inl ⟨by rfl, ?_⟩) ?_ ?_
          rotate_left
          · intro w'
            go_simp
            with_reducible rfl
          rotate_left
          · simp only [Act.put, List.setIfInBounds_toArray, List.set_cons_zero, List.set_cons_succ, i64_w, i32_w]
            rfl
          refine pure_ (i := 6) (N := some 105) (v := ?_) (a' := ?_) #[true, true, true, true, true, false, true, false, false, false, false, false] rfl rfl (by kernel_rfl) (fun _ _ _ h => h) (Or.inl ⟨by rfl, ?_⟩) ?_ ?_
          rotate_left
          · intro w'
            go_simp
            with_reducible rfl
          rotate_left
          · simp only [Act.put, List.setIfInBounds_toArray, List.set_cons_zero, List.set_cons_succ, i64_w, i32_w]
            rfl
          refine pure_ (i := 7) (N := some 106) (v := ?_) (a' := ?_) #[true, true, true, true, true, false, true, true, false, false, false, false] rfl rfl (by kernel_rfl) (fun _ _ _ h => h) (Or.inl ⟨by rfl, ?_⟩) ?_ ?_
          rotate_left
          · intro w'
            go_simp
            with_reducible rfl
          rotate_left
          · simp only [Act.put, List.setIfInBounds_toArray, List.set_cons_zero, List.set_cons_succ, i64_w, i32_w]
            rfl
          refine pure_ (i := 8) (N := some 107) (v := ?_) (a' := ?_) #[true, true, true, true, true, false, true, true, true, false, false, false] rfl rfl (by kernel_rfl) (fun _ _ _ h => h) (Or.inl ⟨by rfl, ?_⟩) ?_ ?_
          rotate_left
          · intro w'
            go_simp
            with_reducible rfl
          rotate_left
          · simp only [Act.put, List.setIfInBounds_toArray, List.set_cons_zero, List.set_cons_succ, i64_w, i32_w]
            rfl
          refine pure_ (i := 9) (N := some 108) (v := ?_) (a' := ?_) #[true, true, true, true, true, false, true, true, true, true, false, false] rfl rfl (by kernel_rfl) (fun _ _ _ h => h) (Or.inl ⟨by rfl, ?_⟩) ?_ ?_
          rotate_left
          · intro w'
            go_simp
            with_reducible rfl
          rotate_left
          · simp only [Act.put, List.setIfInBounds_toArray, List.set_cons_zero, List.set_cons_succ, i64_w, i32_w]
            rfl
          refine take_ (i := 5) (N := some 104) (v := ?_) (a' := ?_) #[true, true, true, true, true, true, true, true, true, true, false, false] rfl rfl (by kernel_rfl) (fun _ _ _ h => h) (Or.inl ⟨by rfl, ?_⟩) hHeld ?_ ?_
          rotate_left
          · rintro w' ⟨s0, s1, s2, s3, s4, s5, s6⟩
            go_simp
            with_reducible rfl
          rotate_left
          · simp only [Act.put, List.setIfInBounds_toArray, List.set_cons_zero, List.set_cons_succ, i64_w, i32_w]
            rfl
          refine take_ (i := 10) (N := some 109) (v := ?_) (a' := ?_) #[true, true, true, true, true, true, true, true, true, true, true, false] rfl rfl (by kernel_rfl) (fun _ _ _ h => h) (Or.inl ⟨by rfl, ?_⟩) hHeld ?_ ?_
          rotate_left
          · rintro w' ⟨s0, s1, s2, s3, s4, s5, s6⟩
            go_simp
            with_reducible rfl
          rotate_left
          · simp only [Act.put, List.setIfInBounds_toArray, List.set_cons_zero, List.set_cons_succ, i64_w, i32_w]
            rfl
          refine last_ (i := 11) (N := some 110) #[true, true, true, true, true, true, true, true, true, true, true, true] rfl rfl (by kernel_rfl) (by decide) (fun K hK => ?_)
          refine goes_ Try.func8 (by kernel_rfl) rfl #[.pointer (some ⟨gs, 0, none⟩), .int .i64 N, .string S] (by rfl) rfl rfl (by simp only [List.map_toArray, List.map_cons, List.map_nil]; rfl) ?_
          with_reducible refine (still_write_any gs gf q m L B N ES S _ hHeld.2.2.2.2.2.1 hHeld.2.2.2.1 hHeld.2.2.2.2.1 hLl.out h1'.out).mono ?_
          rintro e w6 ⟨ce, rfl, hf, hm, hch⟩
          refine ⟨_, rfl, ?_⟩
          refine hK.out _ _ ?_
          clear hK K
          refine norm_ (a' := ?_) ?_ ?_
          rotate_left
          · show Act.put _ (some 110) _ = _
            simp only [Act.put, List.setIfInBounds_toArray, List.set_cons_zero, List.set_cons_succ, i64_w, i32_w]
            rfl
          refine done_ (by kernel_rfl) ?_
          have HB6 := Aside0.mk (below_chg hHeld.2.2.1 hch (by intro i hi; simp only [List.mem_cons, List.mem_nil_iff, or_false] at hi; have := Hg.out; have := Hs.out; omega))
          have HS6 := Aside0.mk (hHeld.2.2.2.2.2.1.chg hch (by simp only [List.mem_cons, List.mem_nil_iff, or_false]; have := Hne.out; omega))
          have HW6 := Aside0.mk (hHeld.2.2.2.2.2.2.chg hch (by simp only [List.mem_cons, List.mem_nil_iff, or_false]; have := Hne.out; have := Hw.out; omega) (by simp only [List.mem_cons, List.mem_nil_iff, or_false]; have := Hne.out; have := Hw.out; omega))
          have HF6 := Aside0.mk hf
          have HM6 := Aside0.mk hm
          clear hHeld hf hm hch HB HF HM HS HW x0 x1 x2
          go_wp2_with fail
          go_roundg kk
          case measure => omega
          case rel => exact ⟨i + 1, by omega, by go_num, HB6, ⟨by rw [hone.out.1]; exact HF6.out⟩, ⟨by rw [hone.out.2]; exact HM6.out⟩, HS6, HW6⟩
      · obtain rfl : i = ops.length := by omega
        have hlt' : ¬ (ops.length : Int) < (ops.length : Int) := by omega
        have HK := Aside0.mk (HK.out (Nat.le_refl _))
        rw [List.take_length] at HF HM HK
        generalize stL l1 ops = L at *
        generalize stE l1 ops = ES at *
        have hLl := Aside0.mk HK.out.1
        go_wp2_with fail
        refine (film_unlike gw qw gf q l1 L B B _ HW.out HF.out hl1.out h1'.out hLl.out h1'.out).mono ?_
        rintro e w7 ⟨u, rfl, hu, hB⟩
        obtain ⟨Au, cu, rfl, _, hCu, _⟩ := hu.reads
        have hmx : max B B = B := Nat.max_self B
        rw [hmx] at hCu ⊢
        obtain ⟨hTu, hMu⟩ := unlV_spec (blkV l1 B) (blkV L B) B h1'.out
        have hUin := Aside0.mk (unl_in l1 L B ES h1'.out HK.out)
        have hUn := Aside0.mk (hTu.whole (Int.le_refl _))
        have hUl : ((unlV (blkV l1 B) (blkV L B) B).length : Int) ≤ 65 := by have := hTu.length (by decide); omega
        generalize unlV (blkV l1 B) (blkV L B) B = U at *
        have HU7 := Aside0.mk hCu
        have HB7 := Aside0.mk (below_step HB.out hB)
        have HF7 := Aside0.mk (HF.out.keep hB)
        have HM7 := Aside0.mk (HM.out.keep hB)
        have HS7 := Aside0.mk (HS.out.keep hB)
        have HW7 := Aside0.mk (HW.out.keep hB)
        clear hu hmx hTu hMu hCu hB HB HF HM HS HW
        go_wp2_with fail
        refine (still_kept gs gf q m L B ES 0 _ (HS7.out.alloc _) (HF7.out.alloc _) (HM7.out.alloc _) hLl.out h1'.out).mono ?_
        rintro e w8 ⟨kv, rfl, hk, hB⟩
        obtain ⟨Ak, ck, rfl, _, hCk⟩ := Kd.R_reads hk
        have hkl : ((keptL ES B).length : Int) ≤ 64 := by have := keptL_length ES B; have := h1'.out; omega
        have HK8 := Aside0.mk hCk
        have HB8 := Aside0.mk (below_step (below_alloc HB7.out _) hB)
        have HF8 := Aside0.mk ((HF7.out.alloc _).keep hB)
        have HM8 := Aside0.mk ((HM7.out.alloc _).keep hB)
        have HS8 := Aside0.mk (Blk.keep (Blk.alloc HS7.out _) hB)
        have HW8 := Aside0.mk ((HW7.out.alloc _).keep hB)
        have HI8 := Aside0.mk ((MapAt.new w7).keep hB)
        have HU8 := Aside0.mk (Kd.C_below (Kd.C_below HU7.out (below_alloc (Below.refl _ _) _)) hB)
        have Hmi : Aside0 (w.heap.size ≤ w7.heap.size ∧ gf ≠ w7.heap.size ∧ q ≠ w7.heap.size ∧ gs ≠ w7.heap.size ∧ m ≠ w7.heap.size ∧ gw ≠ w7.heap.size ∧ qw ≠ w7.heap.size) := ⟨by
          have := HB7.out.size; have := HF7.out.lt; have := HM7.out.lt; have := HS7.out.lt; have := HW7.out.lt; omega⟩
        generalize w7.heap.size = mi at *
        clear hk hCk hB HB7 HF7 HM7 HS7 HW7 HU7
        generalize hKL : keptL ES B = KL at *
        replace hKL := Aside0.mk hKL
        go_wp2_with fail
        go_loopg [118] KL.length (fun kq v wq => ∃ j : Nat, j + kq = KL.length ∧ v = .int .i64 (j : Int) ∧ Aside0 (Chg w8 wq [mi]) ∧ Aside0 (MapAt wq mi (inE (KL.take j))))
        case atStart => exact ⟨0, by omega, rfl, ⟨Chg.refl _ _⟩, HI8⟩
        case round =>
          obtain ⟨j, hj, rfl, HC, HI⟩ := hrel
          by_cases hlt : j < KL.length
          · obtain ⟨kk, rfl⟩ : ∃ z, gk = z + 1 := ⟨gk - 1, by omega⟩
            have hlt' : (j : Int) < (KL.length : Int) := by omega
            obtain ⟨ad, e1, y0⟩ := at_I HK8.out j hlt
            have hone := Aside0.mk (inE_snoc KL j hlt)
            subst e1
            have y0 := HC.out.cell y0 (by simp only [List.mem_singleton]; exact HI8.out.ne_cell y0)
            generalize KL.getD j 0 = X at *
            generalize inE (KL.take j) = IE at *
            go_wp2_with (at_mapUpdate; refine wpList_mapUpdate_i rfl (.tmp 122) (.tmp 123) (.const (.bool true)) 41 3 4 rfl Try.underlying41 Try.underlying3 mi IE rfl HI.out X (.bool true) rfl rfl ?_; intro w9 hM9 hO9)
            have HC9 := Aside0.mk (HC.out.only hO9 (.inl (by simp)))
            have HI9 := Aside0.mk hM9
            clear hM9 hO9 HC HI
            go_roundg kk
            case measure => omega
            case rel => exact ⟨j + 1, by omega, by go_num, HC9, ⟨by rw [hone.out]; exact HI9.out⟩⟩
          · obtain rfl : j = KL.length := by omega
            have hlt' : ¬ (KL.length : Int) < (KL.length : Int) := by omega
            rw [List.take_length] at HI
            have HB9 := Aside0.mk (below_chg HB8.out HC.out (by intro i hi; simp only [List.mem_singleton] at hi; have := Hmi.out; omega))
            have HF9 := Aside0.mk (HF8.out.chg HC.out (by simp only [List.mem_singleton]; have := Hmi.out; omega) (by simp only [List.mem_singleton]; have := Hmi.out; omega))
            have HM9 := Aside0.mk (HM8.out.chg HC.out (by simp only [List.mem_singleton]; have := Hmi.out; omega))
            have HS9 := Aside0.mk (HS8.out.chg HC.out (by simp only [List.mem_singleton]; have := Hmi.out; omega))
            have HW9 := Aside0.mk (HW8.out.chg HC.out (by simp only [List.mem_singleton]; have := Hmi.out; omega) (by simp only [List.mem_singleton]; have := Hmi.out; omega))
            have HU9 := Aside0.mk (C_chg HU8.out HC.out (fun ad v h => by simp only [List.mem_singleton]; exact HI8.out.ne_cell h))
            clear HB8 HF8 HM8 HS8 HW8 HU8 HI8 HC HK8
            obtain ⟨w9, rfl⟩ : ∃ w9 : World, w9 = wr := ⟨_, rfl⟩
            go_wp2_with fail
            go_loopg [17] U.length (fun kq v wq => ∃ j : Nat, j + kq = U.length ∧ v = .int .i64 (j : Int) ∧ Aside0 (Below w9.heap.size w9 wq))
            case atStart => exact ⟨0, by omega, rfl, ⟨Below.refl _ _⟩⟩
            case round =>
              obtain ⟨j, hj, rfl, HC⟩ := hrel
              by_cases hlt : j < U.length
              · obtain ⟨kk, rfl⟩ : ∃ z, gk = z + 1 := ⟨gk - 1, by omega⟩
                have hlt' : (j : Int) < (U.length : Int) := by omega
                obtain ⟨ad, e1, y0, y1⟩ := at_T45 (Kd.C_below HU9.out HC.out) (j : Int) (by omega) (by omega)
                subst e1
                rw [Int.toNat_natCast] at y0 y1
                rw [rd_get U j hlt] at y0 y1
                have hmem := Aside0.mk (fun x (hx : inSp U[j] x) => hUin.out x ⟨_, List.getElem_mem hlt, hx⟩)
                obtain ⟨w0, w1, w2⟩ := hUn.out _ (List.getElem_mem hlt)
                generalize U[j] = X at *
                obtain ⟨F, N⟩ := X
                simp only at y0 y1 w0 w1 w2 hmem
                obtain ⟨F, rfl⟩ := Int.eq_ofNat_of_zero_le w0
                obtain ⟨N, rfl⟩ := Int.eq_ofNat_of_zero_le (show 0 ≤ N by omega)
                have Y0 := Aside0.mk y0
                have Y1 := Aside0.mk y1
                clear w0 w1
                obtain ⟨wo, hwo⟩ : ∃ wo : World, wo = wr := ⟨_, rfl⟩
                rw [← hwo] at y0 y1 HC Y0 Y1 ⊢
                clear hwo
                go_wp2_with fail
                go_loopg [18] N (fun kq v wq => ∃ t : Nat, t + kq = N ∧ v = .int .i64 ((F + t : Nat) : Int) ∧ Aside0 (Below wo.heap.size wo wq))
                case atStart => exact ⟨0, by omega, rfl, ⟨Below.refl _ _⟩⟩
                case round =>
                  obtain ⟨t, ht, rfl, HD⟩ := hrel
                  obtain ⟨n, hn⟩ : ∃ n, n = F + t := ⟨_, rfl⟩
                  have y0 := keepP HD.out Y0.out
                  have y1 := keepP HD.out Y1.out
                  by_cases hlt2 : t < N
                  · obtain ⟨kz, rfl⟩ : ∃ z, gk = z + 1 := ⟨gk - 1, by omega⟩
                    have hlt2' : (n : Int) < (F : Int) + (N : Int) := by omega
                    have hd2 : decide ((n : Int) < (F : Int) + (N : Int)) = true := decide_eq_true hlt2'
                    have hin := hmem.out (n : Int) ⟨by simp only; omega, hlt2'⟩
                    have hnext : Aside0 (F + (t + 1) = n + 1) := ⟨by omega⟩
                    have hn64 : (n : Int) ≤ 64 := by omega
                    rw [← hn]
                    replace hn := Aside0.mk hn
                    have hlk1 : Aside0 (lookE (n : Int) (inE KL) = some (.bool true)) := ⟨by
                      rw [inE_look, if_pos]
                      rw [← hKL.out]
                      exact (keptL_mem ES (n : Int) B).2 hin⟩
                    clear hin
                    go_wp2_with fail
                    go_quiet (fail)
                    have HD2 := Aside0.mk (pw_below_drewN HD.out nq)
                    have hlk := (MapAt.move (w1 := wr.drewN nq) ((HI.out.keep HC.out).keep HD.out) rfl).lookup (P := Try.prog) (T := 41) Try.underlying41 Try.underlying3 (zero_b _) (n : Int) false
                    rw [hlk1.out] at hlk
                    simp only [Bool.false_eq_true, if_false, Option.getD_some] at hlk
                    go_wp2_with fail
                    go_roundg kz
                    case measure => omega
                    case rel => exact ⟨t + 1, by omega, by rw [hnext.out]; go_num, HD2⟩
                  · obtain rfl : t = N := by omega
                    have hlt2' : ¬ (n : Int) < (F : Int) + (t : Int) := by omega
                    have hd2 : decide ((n : Int) < (F : Int) + (t : Int)) = false := decide_eq_false hlt2'
                    rw [← hn]
                    replace hn := Aside0.mk hn
                    go_wp2_with fail
                    go_quiet (fail)
                    have HD2 := Aside0.mk (pw_below_drewN HD.out nq)
                    have HC2 := Aside0.mk (below_step HC.out HD2.out)
                    clear HD y0 y1 hlt2' hd2
                    generalize wr.drewN nq = wz at *
                    go_wp2_with fail
                    go_roundg kk
                    case measure => omega
                    case rel => exact ⟨j + 1, by omega, by go_num, HC2⟩
              · obtain rfl : j = U.length := by omega
                have hlt' : ¬ (U.length : Int) < (U.length : Int) := by omega
                have HBa := Aside0.mk (below_step HB9.out HC.out)
                have HFa := Aside0.mk (HF9.out.keep HC.out)
                have HMa := Aside0.mk (HM9.out.keep HC.out)
                have HSa := Aside0.mk (HS9.out.keep HC.out)
                have HWa := Aside0.mk (HW9.out.keep HC.out)
                clear HB9 HF9 HM9 HS9 HW9 HU9 HC HI
                go_wp2_with fail
                go_loopg [19] B (fun kq v wq => ∃ k : Nat, k + kq = B ∧ v = .int .i64 (k : Int) ∧ Aside0 (Below w.heap.size w wq) ∧ Aside0 (FilmAt wq gf q L) ∧ Aside0 (MapAt wq m (delN ES k)) ∧ Aside0 (StillAt wq gs gf m (goneN k)) ∧ Aside0 (FilmAt wq gw qw l1))
                case atStart => exact ⟨0, by omega, rfl, HBa, HFa, HMa, HSa, HWa⟩
                case round =>
                  obtain ⟨k, hk, rfl, HB, HF, HM, HS, HW⟩ := hrel
                  by_cases hlt : k < B
                  · obtain ⟨kk, rfl⟩ : ∃ z, gk = z + 1 := ⟨gk - 1, by omega⟩
                    have hlt' : (k : Int) < (B : Int) := by omega
                    have hlt := Aside0.mk hlt
                    have hd1 := (delN_look ES HK.out.2.1 (k : Int) k).2
                    rw [if_neg (by omega)] at hd1
                    have hR : Aside0 ((lookE (k : Int) (delN ES k)).getD (.string (blkS L k)) = .string (blkS l1 k)) := ⟨by
                      rw [hd1]
                      rcases HK.out.2.2.2 k hlt.out with h | ⟨h, h2⟩
                      · rw [h]; rfl
                      · rw [h, h2]; rfl⟩
                    have hd2 := (delN_look ES HK.out.2.1 (k : Int) (k + 1)).2
                    rw [if_pos (by omega)] at hd2
                    have hR2 : Aside0 ((lookE (k : Int) (delE (k : Int) (delN ES k))).getD (.string (blkS L k)) = .string (blkS L k)) := ⟨by
                      show (lookE (k : Int) (delN ES (k + 1))).getD _ = _
                      rw [hd2]; rfl⟩
                    have hg1 := Aside0.mk (goneN_lt k (by have := h1'.out; have := hlt.out; omega))
                    have hg2 := Aside0.mk (goneN_lt (k + 1) (by have := h1'.out; have := hlt.out; omega))
                    have hb1 : Aside0 ((goneN k).testBit k = false) := ⟨by rw [goneN_bit]; simp⟩
                    have hb2 : Aside0 ((goneN (k + 1)).testBit k = true) := ⟨by rw [goneN_bit]; simp⟩
                    have hwb := Aside0.mk (film_block gw qw l1 B k wr HW.out hl1.out h1'.out hlt.out)
                    have hn1 : Aside0 (delN ES (k + 1) = delE (k : Int) (delN ES k)) := ⟨rfl⟩
                    have hn2 : Aside0 (goneN (k + 1) = goneN k ||| 2 ^ k) := ⟨rfl⟩
                    clear hd1 hd2
                    go_wp2_with fail
                    refine (still_block gs gf q m L B k (delN ES k) (goneN k) _ HS.out HF.out HM.out hLl.out h1'.out hlt.out (blkS l1 k) hR.out).mono ?_
                    rintro e wa ⟨rfl, rfl⟩
                    go_wp2_with fail
                    refine hwb.out.mono ?_
                    rintro e wb ⟨rfl, rfl⟩
                    rw [show (⟨((l1.drop (8 * k)).take 8).toArray⟩ : ByteArray) = blkS l1 k from rfl]
                    generalize blkS l1 k = X1 at *
                    go_wp2_with fail
                    refine (still_let gs gf q m L B k (delN ES k) (goneN k) _ HS.out HF.out HM.out hLl.out h1'.out hg1.out hlt.out hb1.out).mono ?_
                    rintro e wc ⟨rfl, hs, hm, hch⟩
                    have HBc := Aside0.mk (below_chg HB.out hch (by intro i hi; simp only [List.mem_cons, List.mem_nil_iff, or_false] at hi; have := Hs.out; omega))
                    have HFc := Aside0.mk (HF.out.chg hch (by simp only [List.mem_cons, List.mem_nil_iff, or_false]; have := Hnf.out; omega) (by simp only [List.mem_cons, List.mem_nil_iff, or_false]; have := Hnf.out; omega))
                    have HWc := Aside0.mk (HW.out.chg hch (by simp only [List.mem_cons, List.mem_nil_iff, or_false]; have := Hne.out; omega) (by simp only [List.mem_cons, List.mem_nil_iff, or_false]; have := Hne.out; omega))
                    rw [← hn2.out] at hs
                    have HSc := Aside0.mk hs
                    have HMc := Aside0.mk hm
                    clear hs hm hch HB HF HM HS HW hwb
                    go_wp2_with fail
                    refine (still_let_no gs gf q m L B k (goneN (k + 1)) _ HSc.out HFc.out hLl.out h1'.out hg2.out hlt.out hb2.out).mono ?_
                    rintro e wd ⟨rfl, rfl⟩
                    go_wp2_with fail
                    refine (still_block gs gf q m L B k _ (goneN (k + 1)) _ HSc.out HFc.out HMc.out hLl.out h1'.out hlt.out (blkS L k) hR2.out).mono ?_
                    rintro e we ⟨rfl, rfl⟩
                    go_wp2_with fail
                    refine (film_block gf q L B k _ HFc.out hLl.out h1'.out hlt.out).mono ?_
                    rintro e wf ⟨rfl, rfl⟩
                    rw [show (⟨((L.drop (8 * k)).take 8).toArray⟩ : ByteArray) = blkS L k from rfl]
                    generalize blkS L k = X2 at *
                    go_wp2_with fail
                    go_roundg kk
                    case measure => omega
                    case rel => exact ⟨k + 1, by omega, by go_num, HBc, HFc, ⟨by rw [hn1.out]; exact HMc.out⟩, HSc, HWc⟩
                  · obtain rfl : k = B := by omega
                    have hlt' : ¬ (k : Int) < (k : Int) := by omega
                    have hnil : Aside0 (keptL (delN ES k) k = []) := ⟨keptL_none _ _ (fun j hj => by rw [(delN_look ES HK.out.2.1 (j : Int) k).2, if_pos (by omega)])⟩
                    go_wp2_with fail
                    refine (still_kept gs gf q m L k (delN ES k) (goneN k) _ HS.out HF.out HM.out hLl.out h1'.out).mono ?_
                    rintro e wa ⟨kv, rfl, hkr, hB⟩
                    rw [hnil.out] at hkr
                    obtain ⟨Az, cz, rfl, _, _⟩ := Kd.R_reads hkr
                    have HBz := Aside0.mk (below_step HB.out hB)
                    clear hkr hB
                    go_wp2_with fail
                    go_ret
                    exact ⟨rfl, HBz.out⟩
theorem walk (B : Int) (a : ByteArray) (A : Option Addr) (c : Nat) (ops : List SO) (w : World) (wB : (Lit.int .i64 B).wf = true) (wa : a.size ≤ 140737488351232) (_ : ops.length ≤ c) (hC : Kd.C k38 w A ops.length ops) :
    Calls Try.prog 4 #[.int .i64 B, .string a, .slice A ops.length c] w fun e w' => e = .returned (.bool true) ∧ Below w.heap.size w w' := by
  by_cases h : Out B a ops.length
  · exact early B a A ops.length c w h
  · unfold Out at h
    obtain ⟨B', rfl⟩ := Int.eq_ofNat_of_zero_le (show 0 ≤ B by omega)
    exact main B' a A c ops w (by omega) (by omega) (by omega) (by omega) hC
end Go.Proofs.Ytknphhcppllpoaa.WStillStays
