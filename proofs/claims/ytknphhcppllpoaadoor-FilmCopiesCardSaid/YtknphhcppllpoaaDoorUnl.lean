/- Which blocks of two volumes are not alike (film.Unlike), walked. -/
import Derived.Test.YtknphhcppllpoaaDoorFilm
import Derived.Test.YtknphhcppllpoaaDoorRunsD
import Derived.Test.YtknphhcppllpoaaDoorAx0
namespace Go.Proofs.YtknphhcppllpoaaDoor.Hand
open Go.RowKit Go.Proofs.YtknphhcppllpoaaDoorW.PrintWords Go.Proofs.YtknphhcppllpoaaDoorW.PrintLast Go.Proofs.YtknphhcppllpoaaDoorW.PrintMore Go.Proofs.YtknphhcppllpoaaDoor.A
set_option linter.unusedVariables false
set_option linter.unusedSimpArgs false
attribute [local go_sem] max2_int min2_int max_two min_two max_three min_three max_four min_four
theorem str_inj {a b : ByteArray} (h : a.toList = b.toList) : a = b := by
  rw [ByteArray.toList_eq, ByteArray.toList_eq] at h
  cases a; cases b; congr; exact Array.toList_inj.1 h
theorem C_nil0 (w : World) : Kd.C k55 w none 0 [] := ⟨rfl, by decide, fun h => by omega⟩
theorem C_lit1 (w : World) (x : S55) : Kd.C k55 (w.alloc (.cells #[.int .i64 x.f0, .int .i64 x.f1] 55)) (some ⟨w.heap.size, 0, none⟩) 1 [x] := by
  refine ⟨rfl, by decide, fun _ => ⟨_, rfl, fun j p hj => ?_⟩⟩
  cases j with
  | succ j => simp at hj
  | zero =>
    injection hj with hj
    subst hj
    refine ⟨[.int .i64 x.f0, .int .i64 x.f1], rfl, k55_mk _ _, fun q u hq => ?_⟩
    rw [Addr.add_lit]
    match q, hq with
    | 0, hq => injection hq with hq; subst hq; exact (Blk.new w _ _).cell rfl
    | 1, hq => injection hq with hq; subst hq; exact (Blk.new w _ _).cell rfl
    | q + 2, hq => simp at hq
/-- Which of the first so many are not alike, as few spans as may be. -/
def unlV (x y : Nat → ByteArray × Int) : Nat → List S55
  | 0 => []
  | k + 1 => if x k = y k then unlV x y k else addV (unlV x y k) ⟨(k : Int), 1⟩
theorem unlV_spec (x y : Nat → ByteArray × Int) : ∀ n, n ≤ 64 → Tidy 0 (unlV x y n) ∧ ∀ j, mem (unlV x y n) j ↔ 0 ≤ j ∧ j < n ∧ x j.toNat ≠ y j.toNat
  | 0, _ => ⟨trivial, fun j => ⟨fun h => (by obtain ⟨_, h, _⟩ := h; cases h), fun h => (by omega)⟩⟩
  | k + 1, hk => by
    obtain ⟨h1, h2⟩ := unlV_spec x y k (by omega)
    unfold unlV
    split
    · rename_i he
      refine ⟨h1, fun j => (h2 j).trans ⟨fun h => ⟨h.1, by omega, h.2.2⟩, fun h => ⟨h.1, ?_, h.2.2⟩⟩⟩
      rcases Int.lt_or_le j k with h3 | h3
      · exact h3
      · obtain rfl : j = (k : Int) := by omega
        exact absurd (by rw [Int.toNat_natCast]; exact he) h.2.2
    · rename_i he
      obtain ⟨a, b⟩ := addV_spec h1 (s := ⟨(k : Int), 1⟩) ⟨by simp only; omega, by simp only; omega, by simp only; omega⟩
      refine ⟨a, fun j => (b j).trans ?_⟩
      rw [h2 j]
      unfold inSp
      simp only
      constructor
      · rintro (h | h)
        · exact ⟨h.1, by omega, h.2.2⟩
        · obtain rfl : j = (k : Int) := by omega
          exact ⟨by omega, by omega, by rw [Int.toNat_natCast]; exact he⟩
      · intro h
        rcases Int.lt_or_le j k with h3 | h3
        · exact .inl ⟨h.1, h3, h.2.2⟩
        · exact .inr (by omega)
theorem putV_one (l : List S55) (k : Nat) (hk : k < 64) : putV l [⟨(k : Int), 1⟩] = addV l ⟨(k : Int), 1⟩ := by
  show putOneV l _ = _
  unfold putOneV
  rw [if_pos ⟨by simp only; omega, by simp only; omega, by simp only; omega⟩]
set_option maxRecDepth 100000 in
set_option maxHeartbeats 1600000 in
theorem film_unlike_of (P0 P1 : Value) (hP0 : ∃ a, P0 = .pointer a) (hP1 : ∃ a, P1 = .pointer a) (b1 b2 : Nat) (h1 : b1 ≤ 64) (h2 : b2 ≤ 64) (x y : Nat → ByteArray × Int) (w : World)
    (hB0 : ∀ W, Below w.heap.size w W → Calls Tryd.prog 23 #[P0] W fun e w' => e = .returned (.int .i64 b1) ∧ w' = W)
    (hB1 : ∀ W, Below w.heap.size w W → Calls Tryd.prog 23 #[P1] W fun e w' => e = .returned (.int .i64 b2) ∧ w' = W)
    (hX : ∀ W k, k < max b1 b2 → Below w.heap.size w W → Calls Tryd.prog 11 #[P0, .int .i64 (k : Int)] W fun e w' => e = .returned (.tuple #[.string (x k).1, .int .i64 (x k).2]) ∧ w' = W)
    (hY : ∀ W k, k < max b1 b2 → Below w.heap.size w W → Calls Tryd.prog 11 #[P1, .int .i64 (k : Int)] W fun e w' => e = .returned (.tuple #[.string (y k).1, .int .i64 (y k).2]) ∧ w' = W) :
    Calls Tryd.prog 14 #[P0, P1] w fun e w' => ∃ v, e = .returned v ∧ ORow w' w.heap.size v (unlV x y (max b1 b2)) ∧ Below w.heap.size w w' := by
  obtain ⟨a0, rfl⟩ := hP0
  obtain ⟨a1, rfl⟩ := hP1
  have HB0 := Aside0.mk hB0
  have HB1 := Aside0.mk hB1
  have HX := Aside0.mk hX
  have HY := Aside0.mk hY
  obtain ⟨n, hn⟩ : ∃ n, n = max b1 b2 := ⟨_, rfl⟩
  have hn64 := Aside0.mk (show n ≤ 64 by omega)
  have hmax : Aside0 (max (b1 : Int) (b2 : Int) = (n : Int)) := ⟨by omega⟩
  rw [← hn] at HX HY ⊢
  have hcase : ((b1 : Int) < (b2 : Int) ∧ n = b2) ∨ (¬ (b1 : Int) < (b2 : Int) ∧ n = b1) := by omega
  clear hB0 hB1 hX hY hn hmax
  rcases hcase with ⟨hbb, hn⟩ | ⟨hbb, hn⟩
  · subst hn
    go_enter Tryd.func14, Tryd.ntmps14
    go_wp2_with fail
    refine (runs_of [] none 0 _ (C_nil0 _)).mono ?_
    rintro e w1 ⟨rfl, hr, hB⟩
    have HW1 := Aside0.mk hB
    have HR1 := Aside0.mk hr
    clear hr hB
    go_wp2_with fail
    refine (HB0.out _ HW1.out).mono ?_
    rintro e w2 ⟨rfl, rfl⟩
    go_wp2_with fail
    refine (HB1.out _ HW1.out).mono ?_
    rintro e w3 ⟨rfl, rfl⟩
    go_wp2_with fail
    go_loopg [17] n (fun kq v wq => ∃ k : Nat, k + kq = n ∧ v = .int .i64 (k : Int) ∧ Aside0 (Below w.heap.size w wq) ∧ Aside0 (RunsAt wq w.heap.size w.heap.size (unlV x y k)))
    case atStart => exact ⟨0, by omega, rfl, HW1, HR1⟩
    case round =>
      obtain ⟨k, hk, rfl, HW, HR⟩ := hrel
      have hT := Aside0.mk (fun h => (unlV_spec x y k h).1)
      by_cases hlt : k < n
      · obtain ⟨kk, rfl⟩ : ∃ z, gk = z + 1 := ⟨gk - 1, by omega⟩
        have hlt' : (k : Int) < (n : Int) := by omega
        have hk64 : (k : Int) ≤ 64 := by have := hn64.out; omega
        have hone : Aside0 (unlV x y (k + 1) = if x k = y k then unlV x y k else addV (unlV x y k) ⟨(k : Int), 1⟩) := ⟨rfl⟩
        have hpv := Aside0.mk (putV_one (unlV x y k) k (by have := hn64.out; omega))
        have hTk := Aside0.mk (hT.out (by have := hn64.out; omega))
        have HXk := Aside0.mk (HX.out _ k hlt HW.out)
        have HYk := Aside0.mk (HY.out _ k hlt HW.out)
        clear hT
        generalize x k = X at *
        generalize y k = Y at *
        obtain ⟨xs, xe⟩ := X
        obtain ⟨ys, ye⟩ := Y
        simp only at HXk HYk
        by_cases he : xe = ye
        · by_cases hs : xs = ys
          · subst he hs
            rw [if_pos rfl] at hone
            go_wp2_with fail
            refine HXk.out.mono ?_
            rintro e w5 ⟨rfl, rfl⟩
            go_wp2_with fail
            refine HYk.out.mono ?_
            rintro e w6 ⟨rfl, rfl⟩
            go_wp2_with fail
            go_roundg kk
            case measure => omega
            case rel => exact ⟨k + 1, by omega, by go_num, HW, ⟨by rw [hone.out]; exact HR.out⟩⟩
          · subst he
            rw [if_neg (fun h => hs (congrArg Prod.fst h))] at hone
            have hsl : (xs.toList == ys.toList) = false := beq_eq_false_iff_ne.2 (fun h => hs (str_inj h))
            clear hs
            go_wp2_with fail
            refine HXk.out.mono ?_
            rintro e w5 ⟨rfl, rfl⟩
            go_wp2_with fail
            refine HYk.out.mono ?_
            rintro e w6 ⟨rfl, rfl⟩
            go_wp2_with fail
            refine (runs_put w.heap.size w.heap.size (unlV x y k) [⟨(k : Int), 1⟩] _ 1 _ hTk.out (HR.out.keep (below_alloc (Below.refl _ _) _)) (Nat.le_trans HW.out.size (by simp)) (C_lit1 w6 ⟨(k : Int), 1⟩) ?_).mono ?_
            · intro _ a ha
              injection ha with ha
              subst ha
              have := HR.out.lt
              simp only
              omega
            rintro e w7 ⟨rfl, hr, ho⟩
            rw [hpv.out] at hr ⊢
            have HR7 := Aside0.mk hr
            have HW7 : Aside0 (Below w.heap.size w w7) := ⟨below_only (below_alloc HW.out _) ho (Nat.le_refl _)⟩
            clear hr ho
            go_wp2_with fail
            go_roundg kk
            case measure => omega
            case rel => exact ⟨k + 1, by omega, by go_num, HW7, ⟨by rw [hone.out]; exact HR7.out⟩⟩
        · rw [if_neg (fun h => he (congrArg Prod.snd h))] at hone
          go_wp2_with fail
          refine HXk.out.mono ?_
          rintro e w5 ⟨rfl, rfl⟩
          go_wp2_with fail
          refine HYk.out.mono ?_
          rintro e w6 ⟨rfl, rfl⟩
          go_wp2_with fail
          refine (runs_put w.heap.size w.heap.size (unlV x y k) [⟨(k : Int), 1⟩] _ 1 _ hTk.out (HR.out.keep (below_alloc (Below.refl _ _) _)) (Nat.le_trans HW.out.size (by simp)) (C_lit1 w6 ⟨(k : Int), 1⟩) ?_).mono ?_
          · intro _ a ha
            injection ha with ha
            subst ha
            have := HR.out.lt
            simp only
            omega
          rintro e w7 ⟨rfl, hr, ho⟩
          rw [hpv.out] at hr ⊢
          have HR7 := Aside0.mk hr
          have HW7 : Aside0 (Below w.heap.size w w7) := ⟨below_only (below_alloc HW.out _) ho (Nat.le_refl _)⟩
          clear hr ho
          go_wp2_with fail
          go_roundg kk
          case measure => omega
          case rel => exact ⟨k + 1, by omega, by go_num, HW7, ⟨by rw [hone.out]; exact HR7.out⟩⟩
      · obtain rfl : k = n := by omega
        have hlt' : ¬ (k : Int) < (k : Int) := by omega
        have hTk := Aside0.mk (hT.out (by have := hn64.out; omega))
        clear hT
        have hlen : (unlV x y k).length ≤ 1000000 := by have := hTk.out.length (by decide); omega
        go_wp2_with fail
        refine (runs_all w.heap.size w.heap.size _ hlen _ HR.out).mono ?_
        rintro e w5 ⟨v, rfl, ho, hB⟩
        have HO := Aside0.mk (ho.lower HW.out.size)
        have HW5 := Aside0.mk (below_step HW.out hB)
        clear ho hB
        obtain ⟨A1, c1, hv, _⟩ := HO.out.reads
        subst hv
        go_wp2_with fail
        go_ret
        exact ⟨_, rfl, HO.out, HW5.out⟩
  · subst hn
    go_enter Tryd.func14, Tryd.ntmps14
    go_wp2_with fail
    refine (runs_of [] none 0 _ (C_nil0 _)).mono ?_
    rintro e w1 ⟨rfl, hr, hB⟩
    have HW1 := Aside0.mk hB
    have HR1 := Aside0.mk hr
    clear hr hB
    go_wp2_with fail
    refine (HB0.out _ HW1.out).mono ?_
    rintro e w2 ⟨rfl, rfl⟩
    go_wp2_with fail
    refine (HB1.out _ HW1.out).mono ?_
    rintro e w3 ⟨rfl, rfl⟩
    go_wp2_with fail
    go_loopg [17] n (fun kq v wq => ∃ k : Nat, k + kq = n ∧ v = .int .i64 (k : Int) ∧ Aside0 (Below w.heap.size w wq) ∧ Aside0 (RunsAt wq w.heap.size w.heap.size (unlV x y k)))
    case atStart => exact ⟨0, by omega, rfl, HW1, HR1⟩
    case round =>
      obtain ⟨k, hk, rfl, HW, HR⟩ := hrel
      have hT := Aside0.mk (fun h => (unlV_spec x y k h).1)
      by_cases hlt : k < n
      · obtain ⟨kk, rfl⟩ : ∃ z, gk = z + 1 := ⟨gk - 1, by omega⟩
        have hlt' : (k : Int) < (n : Int) := by omega
        have hk64 : (k : Int) ≤ 64 := by have := hn64.out; omega
        have hone : Aside0 (unlV x y (k + 1) = if x k = y k then unlV x y k else addV (unlV x y k) ⟨(k : Int), 1⟩) := ⟨rfl⟩
        have hpv := Aside0.mk (putV_one (unlV x y k) k (by have := hn64.out; omega))
        have hTk := Aside0.mk (hT.out (by have := hn64.out; omega))
        have HXk := Aside0.mk (HX.out _ k hlt HW.out)
        have HYk := Aside0.mk (HY.out _ k hlt HW.out)
        clear hT
        generalize x k = X at *
        generalize y k = Y at *
        obtain ⟨xs, xe⟩ := X
        obtain ⟨ys, ye⟩ := Y
        simp only at HXk HYk
        by_cases he : xe = ye
        · by_cases hs : xs = ys
          · subst he hs
            rw [if_pos rfl] at hone
            go_wp2_with fail
            refine HXk.out.mono ?_
            rintro e w5 ⟨rfl, rfl⟩
            go_wp2_with fail
            refine HYk.out.mono ?_
            rintro e w6 ⟨rfl, rfl⟩
            go_wp2_with fail
            go_roundg kk
            case measure => omega
            case rel => exact ⟨k + 1, by omega, by go_num, HW, ⟨by rw [hone.out]; exact HR.out⟩⟩
          · subst he
            rw [if_neg (fun h => hs (congrArg Prod.fst h))] at hone
            have hsl : (xs.toList == ys.toList) = false := beq_eq_false_iff_ne.2 (fun h => hs (str_inj h))
            clear hs
            go_wp2_with fail
            refine HXk.out.mono ?_
            rintro e w5 ⟨rfl, rfl⟩
            go_wp2_with fail
            refine HYk.out.mono ?_
            rintro e w6 ⟨rfl, rfl⟩
            go_wp2_with fail
            refine (runs_put w.heap.size w.heap.size (unlV x y k) [⟨(k : Int), 1⟩] _ 1 _ hTk.out (HR.out.keep (below_alloc (Below.refl _ _) _)) (Nat.le_trans HW.out.size (by simp)) (C_lit1 w6 ⟨(k : Int), 1⟩) ?_).mono ?_
            · intro _ a ha
              injection ha with ha
              subst ha
              have := HR.out.lt
              simp only
              omega
            rintro e w7 ⟨rfl, hr, ho⟩
            rw [hpv.out] at hr ⊢
            have HR7 := Aside0.mk hr
            have HW7 : Aside0 (Below w.heap.size w w7) := ⟨below_only (below_alloc HW.out _) ho (Nat.le_refl _)⟩
            clear hr ho
            go_wp2_with fail
            go_roundg kk
            case measure => omega
            case rel => exact ⟨k + 1, by omega, by go_num, HW7, ⟨by rw [hone.out]; exact HR7.out⟩⟩
        · rw [if_neg (fun h => he (congrArg Prod.snd h))] at hone
          go_wp2_with fail
          refine HXk.out.mono ?_
          rintro e w5 ⟨rfl, rfl⟩
          go_wp2_with fail
          refine HYk.out.mono ?_
          rintro e w6 ⟨rfl, rfl⟩
          go_wp2_with fail
          refine (runs_put w.heap.size w.heap.size (unlV x y k) [⟨(k : Int), 1⟩] _ 1 _ hTk.out (HR.out.keep (below_alloc (Below.refl _ _) _)) (Nat.le_trans HW.out.size (by simp)) (C_lit1 w6 ⟨(k : Int), 1⟩) ?_).mono ?_
          · intro _ a ha
            injection ha with ha
            subst ha
            have := HR.out.lt
            simp only
            omega
          rintro e w7 ⟨rfl, hr, ho⟩
          rw [hpv.out] at hr ⊢
          have HR7 := Aside0.mk hr
          have HW7 : Aside0 (Below w.heap.size w w7) := ⟨below_only (below_alloc HW.out _) ho (Nat.le_refl _)⟩
          clear hr ho
          go_wp2_with fail
          go_roundg kk
          case measure => omega
          case rel => exact ⟨k + 1, by omega, by go_num, HW7, ⟨by rw [hone.out]; exact HR7.out⟩⟩
      · obtain rfl : k = n := by omega
        have hlt' : ¬ (k : Int) < (k : Int) := by omega
        have hTk := Aside0.mk (hT.out (by have := hn64.out; omega))
        clear hT
        have hlen : (unlV x y k).length ≤ 1000000 := by have := hTk.out.length (by decide); omega
        go_wp2_with fail
        refine (runs_all w.heap.size w.heap.size _ hlen _ HR.out).mono ?_
        rintro e w5 ⟨v, rfl, ho, hB⟩
        have HO := Aside0.mk (ho.lower HW.out.size)
        have HW5 := Aside0.mk (below_step HW.out hB)
        clear ho hB
        obtain ⟨A1, c1, hv, _⟩ := HO.out.reads
        subst hv
        go_wp2_with fail
        go_ret
        exact ⟨_, rfl, HO.out, HW5.out⟩
/-- What a block shows, or that there is none. -/
def blkV (l : List UInt8) (b k : Nat) : ByteArray × Int := if k < b then (blkS l k, 0) else (⟨#[]⟩, 2)
theorem film_block_v (g q : Nat) (l : List UInt8) (b k : Nat) (w : World) (hf : FilmAt w g q l) (hl : l.length = 8 * b) (hb : b ≤ 64) :
    Calls Tryd.prog 11 #[.pointer (some ⟨g, 0, none⟩), .int .i64 (k : Int)] w fun e w' => e = .returned (.tuple #[.string (blkV l b k).1, .int .i64 (blkV l b k).2]) ∧ w' = w := by
  unfold blkV
  by_cases h : k < b
  · rw [if_pos h]; exact film_block g q l b k w hf hl hb h
  · rw [if_neg h]; exact film_block_no g q l b k w hf hl hb (.inr ⟨by omega, by omega⟩)
theorem film_unlike (g q g' q' : Nat) (l m : List UInt8) (b b' : Nat) (w : World) (hf : FilmAt w g q l) (hf' : FilmAt w g' q' m) (hl : l.length = 8 * b) (hb : b ≤ 64) (hm : m.length = 8 * b') (hb' : b' ≤ 64) :
    Calls Tryd.prog 14 #[.pointer (some ⟨g, 0, none⟩), .pointer (some ⟨g', 0, none⟩)] w fun e w' => ∃ v, e = .returned v ∧ ORow w' w.heap.size v (unlV (blkV l b) (blkV m b') (max b b')) ∧ Below w.heap.size w w' :=
  film_unlike_of _ _ ⟨_, rfl⟩ ⟨_, rfl⟩ b b' hb hb' (blkV l b) (blkV m b') w (fun W hW => film_blocks g q l b W (hf.keep hW) hl) (fun W hW => film_blocks g' q' m b' W (hf'.keep hW) hm)
    (fun W k _ hW => film_block_v g q l b k W (hf.keep hW) hl hb) (fun W k _ hW => film_block_v g' q' m b' k W (hf'.keep hW) hm hb')
theorem film_unlike_nil (g' q' : Nat) (m : List UInt8) (b' : Nat) (w : World) (hf' : FilmAt w g' q' m) (hm : m.length = 8 * b') (hb' : b' ≤ 64) :
    Calls Tryd.prog 14 #[.pointer none, .pointer (some ⟨g', 0, none⟩)] w fun e w' => ∃ v, e = .returned v ∧ ORow w' w.heap.size v (unlV (fun _ => (⟨#[]⟩, 1)) (blkV m b') (max 0 b')) ∧ Below w.heap.size w w' :=
  film_unlike_of _ _ ⟨_, rfl⟩ ⟨_, rfl⟩ 0 b' (by decide) hb' _ (blkV m b') w (fun W hW => film_blocks_nil W) (fun W hW => film_blocks g' q' m b' W (hf'.keep hW) hm)
    (fun W k _ hW => film_block_nil k W) (fun W k _ hW => film_block_v g' q' m b' k W (hf'.keep hW) hm hb')
end Go.Proofs.YtknphhcppllpoaaDoor.Hand
