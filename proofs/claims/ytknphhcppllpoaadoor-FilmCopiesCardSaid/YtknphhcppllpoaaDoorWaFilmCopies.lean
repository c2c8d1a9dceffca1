/- FilmCopies, walked: a copy is alike, and goes on by itself; what differs is told. -/
import Derived.Test.YtknphhcppllpoaaDoorFilmN
import Derived.Test.YtknphhcppllpoaaDoorAx0
import Derived.Test.YtknphhcppllpoaaDoorAx1
namespace Go.Proofs.YtknphhcppllpoaaDoor.WFilmCopies
open Go.RowKit Go.Proofs.YtknphhcppllpoaaDoorW.PrintWords Go.Proofs.YtknphhcppllpoaaDoorW.PrintLast Go.Proofs.YtknphhcppllpoaaDoorW.PrintMore Go.Proofs.YtknphhcppllpoaaDoor.A Go.Proofs.YtknphhcppllpoaaDoor.Hand
set_option linter.unusedVariables false
set_option linter.unusedSimpArgs false
attribute [local go_sem] max2_int min2_int max_two min_two max_three min_three max_four min_four
attribute [local go_sem high] eqA55
abbrev SP := S31
theorem spl_self (l : List UInt8) (q : Nat) (c : UInt8) (hq : q < l.length) (h : l[q] = c) : spl l q [c] = l := by
  apply List.ext_getElem?
  intro j
  rw [spl_get l q [c] (by simp; omega)]
  split
  · rename_i hj
    obtain rfl : j = q := by simp only [List.length_singleton] at hj; omega
    rw [Nat.sub_self, List.getElem?_eq_getElem hq, h]; rfl
  · rfl
theorem unl_one (l : List UInt8) (B q : Nat) (c : UInt8) (hl : l.length = 8 * B) (hB : B ≤ 64) (hq : q < l.length) (h : ¬ l[q] = c) : unlV (blkV l B) (blkV (spl l q [c]) B) B = [⟨((q / 8 : Nat) : Int), 1⟩] := by
  obtain ⟨hT, hm⟩ := unlV_spec (blkV l B) (blkV (spl l q [c]) B) B hB
  have hqB : q / 8 < B := by omega
  refine hT.ext (lo' := 0) ⟨by simp only; omega, by simp only; omega, by simp only; omega, trivial⟩ (fun j => (hm j).trans ?_)
  have hone : mem [(⟨((q / 8 : Nat) : Int), 1⟩ : S55)] j ↔ j = ((q / 8 : Nat) : Int) := by
    unfold mem inSp
    simp only [List.mem_singleton, exists_eq_left]
    omega
  rw [hone]
  constructor
  · rintro ⟨h1, h2, h3⟩
    obtain ⟨k, rfl⟩ := Int.eq_ofNat_of_zero_le h1
    rw [Int.toNat_natCast] at h3
    by_cases hk : k = q / 8
    · rw [hk]
    · exfalso
      apply h3
      unfold blkV
      rw [if_pos (by omega), if_pos (by omega), blkS_spl l q [c] k (by simp; omega) (by simp; omega)]
  · rintro rfl
    refine ⟨by omega, by omega, ?_⟩
    rw [Int.toNat_natCast]
    unfold blkV
    rw [if_pos hqB, if_pos hqB]
    intro he
    have he := congrArg Prod.fst he
    try simp only at he
    unfold blkS at he
    have he := congrArg ByteArray.data he
    have he := congrArg Array.toList he
    try simp only at he
    have hlg := spl_length l q [c] (by simp; omega)
    have he := congrArg (fun x => x[q % 8]?) he
    try simp only at he
    rw [List.getElem?_take, List.getElem?_take, if_pos (by omega), if_pos (by omega), List.getElem?_drop, List.getElem?_drop, show 8 * (q / 8) + q % 8 = q by omega, spl_get l q [c] (by simp; omega), if_pos (by simp), Nat.sub_self, List.getElem?_eq_getElem hq] at he
    injection he with he
    exact h he
set_option maxRecDepth 100000 in
set_option maxHeartbeats 800000 in
theorem early (B : Int) (A : Option Addr) (n c : Nat) (t b : Int) (w : World) (h : B < 1 ∨ (¬ B < 1 ∧ 64 < B)) :
    Calls Tryd.prog 6 #[.int .i64 B, .slice A n c, .int .i64 t, .int .u8 b] w fun e w' => e = .returned (.bool true) ∧ Below w.heap.size w w' := by
  rcases h with h | ⟨h0, h⟩
  all_goals
    go_enter Tryd.func6, Tryd.ntmps6
    go_wp2_with (go_at_call 8; refine (alive4 _).mono ?_; rintro e w1 ⟨rfl, hB⟩)
    go_ret
    exact ⟨rfl, hB⟩
theorem u8_one (b : UInt8) (W : World) : (convert 60 9 (.slice (some ⟨W.heap.size, 0, none⟩) 1 1)).run Tryd.prog (W.alloc (.cells #[.int .u8 (b.toNat : Int)] 5)) = .ok (.string ⟨#[b]⟩) (W.alloc (.cells #[.int .u8 (b.toNat : Int)] 5)) := by
  have h := ByteAt.str (w := W.alloc (.cells #[.int .u8 (b.toNat : Int)] 5)) (q := W.heap.size) (l := [b]) ⟨#[.int .u8 (b.toNat : Int)], (0, 0), heap_alloc_new W _, fun j hj => by
    simp only [List.length_singleton] at hj
    obtain rfl : j = 0 := by omega
    rfl, fun j hj => by simp⟩ 0 1 (by simp) 1 (some ⟨W.heap.size, 0, none⟩) (fun _ => rfl)
  exact h
set_option maxRecDepth 100000 in
set_option maxHeartbeats 3200000 in
theorem main (B : Nat) (A : Option Addr) (c : Nat) (ops : List SP) (t : Int) (b : UInt8) (w : World) (h0 : 1 ≤ B) (h1 : B ≤ 64) (hc : ops.length ≤ c) (hC : Kd.C k31 w A ops.length ops) :
    Calls Tryd.prog 6 #[.int .i64 B, .slice A ops.length c, .int .i64 t, .int .u8 (b.toNat : Int)] w fun e w' => e = .returned (.bool true) ∧ Below w.heap.size w w' := by
  have n0 : ¬ (B : Int) < 1 := by omega
  have n1 : ¬ 64 < (B : Int) := by omega
  have i0 : (1 : Int) ≤ (B : Int) := by omega
  have i1 : (B : Int) ≤ 64 := by omega
  have h0' := Aside0.mk h0
  have h1' := Aside0.mk h1
  have hln : (ops.length : Int) ≤ 9223372036854775807 := by have := hC.2.1; omega
  have HB0 := Aside0.mk (Below.refl w.heap.size w)
  have HO := Aside0.mk hC
  have Hc := Aside0.mk hc
  have m1 : -((B : Int) * 8) < Int.tmod t ((B : Int) * 8) := by have := Int.lt_tmod_of_pos t (b := (B : Int) * 8) (by omega); omega
  have m2 : Int.tmod t ((B : Int) * 8) < (B : Int) * 8 := Int.tmod_lt_of_pos t (by omega)
  obtain ⟨q, hq1, hq2, hq⟩ : ∃ q : Nat, Int.tmod t ((B : Int) * 8) % ((B : Int) * 8) = (q : Int) ∧ (Int.tmod t ((B : Int) * 8) + (B : Int) * 8) % ((B : Int) * 8) = (q : Int) ∧ q < 8 * B := by
    have a1 := Int.emod_nonneg (Int.tmod t ((B : Int) * 8)) (b := (B : Int) * 8) (by omega)
    have a2 := Int.emod_lt_of_pos (Int.tmod t ((B : Int) * 8)) (b := (B : Int) * 8) (by omega)
    exact ⟨(Int.tmod t ((B : Int) * 8) % ((B : Int) * 8)).toNat, by omega, by rw [Int.add_emod_right]; omega, by omega⟩
  have Hq1 := Aside0.mk hq1
  have Hq2 := Aside0.mk hq2
  have Hq := Aside0.mk hq
  have Hm1 := Aside0.mk m1
  have Hm2 := Aside0.mk m2
  have hb0 : (0 : Int) ≤ (b.toNat : Int) := by omega
  have hb1 : (b.toNat : Int) ≤ 255 := by have := b.toNat_lt; omega
  clear h0 h1 hC hc hq1 hq2 hq m1 m2
  go_enter Tryd.func6, Tryd.ntmps6
  go_wp2_with fail
  refine (light_any A c ops _ HO.out Hc.out).mono ?_
  rintro e w1 ⟨bl, rfl, hB⟩
  have HB1 := Aside0.mk (below_step HB0.out hB)
  clear hB HB0
  cases bl
  · go_wp2_with fail
    refine (alive4 _).mono ?_
    rintro e w2 ⟨rfl, hB⟩
    have HB2 := Aside0.mk (below_step HB1.out hB)
    clear hB HB1
    go_wp2_with fail
    go_ret
    exact ⟨rfl, HB2.out⟩
  · go_wp2_with fail
    refine (alive4 _).mono ?_
    rintro e w2 ⟨rfl, hB⟩
    have HB2 := Aside0.mk (below_step HB1.out hB)
    clear hB HB1
    go_wp2_with fail
    refine (film_new B h0'.out h1'.out _).mono ?_
    rintro e w3 ⟨gf, qf, rfl, hg, hq, hf, hB⟩
    have HB3 := Aside0.mk (below_step HB2.out hB)
    have HF3 := Aside0.mk hf
    have Hg : Aside0 (w.heap.size ≤ gf ∧ w.heap.size ≤ qf) := ⟨by have := HB2.out.size; omega⟩
    clear hB HB2 hf hg hq
    have hl0 := Aside0.mk (show (List.replicate (8 * B) (0 : UInt8)).length = 8 * B from List.length_replicate)
    generalize List.replicate (8 * B) (0 : UInt8) = l0 at *
    go_wp2_with fail
    go_loopg [11] ops.length (fun kq v wq => ∃ i : Nat, i + kq = ops.length ∧ v = .int .i64 (i : Int) ∧ Aside0 (Below w.heap.size w wq) ∧ Aside0 (∃ l : List UInt8, l.length = 8 * B ∧ FilmAt wq gf qf l))
    case atStart => exact ⟨0, by omega, rfl, HB3, ⟨l0, hl0.out, HF3.out⟩⟩
    case round =>
      obtain ⟨i, hi, rfl, HB, HF⟩ := hrel
      obtain ⟨l, hll, hf⟩ := HF.out
      have hll := Aside0.mk hll
      have HL := Aside0.mk hf
      clear hf HF
      by_cases hlt : i < ops.length
      · obtain ⟨kk, rfl⟩ : ∃ z, gk = z + 1 := ⟨gk - 1, by omega⟩
        obtain ⟨ad, e1, x0, x1⟩ := at_T31 (Kd.C_below HO.out HB.out) (i : Int) (by omega) (by omega)
        subst e1
        rw [Int.toNat_natCast] at x0 x1
        have hlt' : (i : Int) < (ops.length : Int) := by omega
        generalize rd_T31 ops (i : Int) = X at *
        obtain ⟨N, S⟩ := X
        simp only at x0 x1
        go_wp2_with fail
        refine start_ (n := 12) (S := fun w' => w'.cell? (ad.add (i * 2)) = some (.int .i64 N) ∧ w'.cell? ⟨(ad.add (i * 2)).block, (ad.add (i * 2)).off + 1, none⟩ = some (.string S) ∧ Below w.heap.size w w' ∧ FilmAt w' gf qf l) (ds := [11]) #[false, false, false, false, false, false, false, false, false, false, false, false] (by kernel_rfl) rfl rfl ⟨x0, x1, (below_drew1 HB.out), (FilmAt.move HL.out rfl rfl)⟩ (fun hHeld => ?_)
        refine pure_ (i := 0) (N := some 52) (v := ?_) (a' := ?_) #[true, false, false, false, false, false, false, false, false, false, false, false] rfl rfl (by kernel_rfl) (fun _ _ _ h => h) (Or.inl ⟨by rfl, ?_⟩) ?_ ?_
        rotate_left
        · intro w'
          go_simp
          with_reducible rfl
        rotate_left
        · simp only [Act.put, List.setIfInBounds_toArray, List.set_cons_zero, List.set_cons_succ, i64_w, i32_w]
          rfl
        refine pure_ (i := 1) (N := some 53) (v := ?_) (a' := ?_) #[true, true, false, false, false, false, false, false, false, false, false, false] rfl rfl (by kernel_rfl) (fun _ _ _ h => h) (Or.inl ⟨by rfl, ?_⟩) ?_ ?_
        rotate_left
        · intro w'
          go_simp
          with_reducible rfl
        rotate_left
        · simp only [Act.put, List.setIfInBounds_toArray, List.set_cons_zero, List.set_cons_succ, i64_w, i32_w]
          rfl
        refine pure_ (i := 2) (N := some 54) (v := ?_) (a' := ?_) #[true, true, true, false, false, false, false, false, false, false, false, false] rfl rfl (by kernel_rfl) (fun _ _ _ h => h) (Or.inl ⟨by rfl, ?_⟩) ?_ ?_
        rotate_left
        · intro w'
          go_simp
          with_reducible rfl
        rotate_left
        · simp only [Act.put, List.setIfInBounds_toArray, List.set_cons_zero, List.set_cons_succ, i64_w, i32_w]
          rfl
        refine pure_ (i := 3) (N := some 55) (v := ?_) (a' := ?_) #[true, true, true, true, false, false, false, false, false, false, false, false] rfl rfl (by kernel_rfl) (fun _ _ _ h => h) (Or.inl ⟨by rfl, ?_⟩) ?_ ?_
        rotate_left
        · intro w'
          go_simp
          with_reducible rfl
        rotate_left
        · simp only [Act.put, List.setIfInBounds_toArray, List.set_cons_zero, List.set_cons_succ, i64_w, i32_w]
          rfl
        refine pure_ (i := 4) (N := some 56) (v := ?_) (a' := ?_) #[true, true, true, true, true, false, false, false, false, false, false, false] rfl rfl (by kernel_rfl) (fun _ _ _ h => h) (Or.inl ⟨by rfl, ?_⟩) ?_ ?_
        rotate_left
        · intro w'
          go_simp
          with_reducible rfl
        rotate_left
        · simp only [Act.put, List.setIfInBounds_toArray, List.set_cons_zero, List.set_cons_succ, i64_w, i32_w]
          rfl
        refine pure_ (i := 6) (N := some 58) (v := ?_) (a' := ?_) #[true, true, true, true, true, false, true, false, false, false, false, false] rfl rfl (by kernel_rfl) (fun _ _ _ h => h) (Or.inl ⟨by rfl, ?_⟩) ?_ ?_
        rotate_left
        · intro w'
          go_simp
          with_reducible rfl
        rotate_left
        · simp only [Act.put, List.setIfInBounds_toArray, List.set_cons_zero, List.set_cons_succ, i64_w, i32_w]
          rfl
        refine pure_ (i := 7) (N := some 59) (v := ?_) (a' := ?_) #[true, true, true, true, true, false, true, true, false, false, false, false] rfl rfl (by kernel_rfl) (fun _ _ _ h => h) (Or.inl ⟨by rfl, ?_⟩) ?_ ?_
        rotate_left
        · intro w'
          go_simp
          with_reducible rfl
        rotate_left
        · simp only [Act.put, List.setIfInBounds_toArray, List.set_cons_zero, List.set_cons_succ, i64_w, i32_w]
          rfl
        refine pure_ (i := 8) (N := some 60) (v := ?_) (a' := ?_) #[true, true, true, true, true, false, true, true, true, false, false, false] rfl rfl (by kernel_rfl) (fun _ _ _ h => h) (Or.inl ⟨by rfl, ?_⟩) ?_ ?_
        rotate_left
        · intro w'
          go_simp
          with_reducible rfl
        rotate_left
        · simp only [Act.put, List.setIfInBounds_toArray, List.set_cons_zero, List.set_cons_succ, i64_w, i32_w]
          rfl
        refine pure_ (i := 9) (N := some 61) (v := ?_) (a' := ?_) #[true, true, true, true, true, false, true, true, true, true, false, false] rfl rfl (by kernel_rfl) (fun _ _ _ h => h) (Or.inl ⟨by rfl, ?_⟩) ?_ ?_
        rotate_left
        · intro w'
          go_simp
          with_reducible rfl
        rotate_left
        · simp only [Act.put, List.setIfInBounds_toArray, List.set_cons_zero, List.set_cons_succ, i64_w, i32_w]
          rfl
        refine take_ (i := 5) (N := some 57) (v := ?_) (a' := ?_) #[true, true, true, true, true, true, true, true, true, true, false, false] rfl rfl (by kernel_rfl) (fun _ _ _ h => h) (Or.inl ⟨by rfl, ?_⟩) hHeld ?_ ?_
        rotate_left
        · rintro w' ⟨s0, s1, s2, s3⟩
          go_simp
          with_reducible rfl
        rotate_left
        · simp only [Act.put, List.setIfInBounds_toArray, List.set_cons_zero, List.set_cons_succ, i64_w, i32_w]
          rfl
        refine take_ (i := 10) (N := some 62) (v := ?_) (a' := ?_) #[true, true, true, true, true, true, true, true, true, true, true, false] rfl rfl (by kernel_rfl) (fun _ _ _ h => h) (Or.inl ⟨by rfl, ?_⟩) hHeld ?_ ?_
        rotate_left
        · rintro w' ⟨s0, s1, s2, s3⟩
          go_simp
          with_reducible rfl
        rotate_left
        · simp only [Act.put, List.setIfInBounds_toArray, List.set_cons_zero, List.set_cons_succ, i64_w, i32_w]
          rfl
        refine last_ (i := 11) (N := some 63) #[true, true, true, true, true, true, true, true, true, true, true, true] rfl rfl (by kernel_rfl) (by decide) (fun K hK => ?_)
        refine goes_ Tryd.func10 (by kernel_rfl) rfl #[.pointer (some ⟨gf, 0, none⟩), .int .i64 N, .string S] (by rfl) rfl rfl (by simp only [List.map_toArray, List.map_cons, List.map_nil]; rfl) ?_
        with_reducible refine (film_write_any gf qf l N S _ hHeld.2.2.2 (by have := hll.out; have := h1'.out; omega)).mono ?_
        rintro e w6 ⟨ce, rfl, hf, ho⟩
        refine ⟨_, rfl, ?_⟩
        refine hK.out _ _ ?_
        clear hK K
        refine norm_ (a' := ?_) ?_ ?_
        rotate_left
        · show Act.put _ (some 63) _ = _
          simp only [Act.put, List.setIfInBounds_toArray, List.set_cons_zero, List.set_cons_succ, i64_w, i32_w]
          rfl
        refine done_ (by kernel_rfl) ?_
        have HB6 := Aside0.mk (below_only hHeld.2.2.1 ho Hg.out.2)
        have HF6 := Aside0.mk hf
        clear hHeld hf ho HB HL x0 x1
        go_wp2_with fail
        go_roundg kk
        case measure => omega
        case rel => exact ⟨i + 1, by omega, by go_num, HB6, ⟨_, (wrV_length _ _ _).trans hll.out, HF6.out⟩⟩
      · obtain rfl : i = ops.length := by omega
        have hlt' : ¬ (ops.length : Int) < (ops.length : Int) := by omega
        go_wp2_with fail
        refine (film_copy gf qf l _ HL.out).mono ?_
        rintro e w4 ⟨gg, qg, rfl, hg, hq, hf, hB⟩
        have HB4 := Aside0.mk (below_step HB.out hB)
        have HL4 := Aside0.mk (HL.out.keep hB)
        have HG4 := Aside0.mk hf
        have Hgg : Aside0 (w.heap.size ≤ gg ∧ w.heap.size ≤ qg ∧ gf ≠ qg ∧ qf ≠ qg) := ⟨by have := HB.out.size; have := HL.out.lt; omega⟩
        clear hB HB HL hf hg hq
        have hby := Aside0.mk (fun (g q : Nat) (W : World) (h : FilmAt W g q l) => film_bytes g q l W h)
        generalize (⟨l.toArray⟩ : ByteArray) = R at hby
        go_wp2_with fail
        refine (hby.out _ _ _ HG4.out).mono ?_
        rintro e w5 ⟨rfl, rfl⟩
        go_wp2_with fail
        refine (hby.out _ _ _ HL4.out).mono ?_
        rintro e w6 ⟨rfl, rfl⟩
        go_wp2_with fail
        refine (film_unlike gf qf gg qg l l B B _ HL4.out HG4.out hll.out h1'.out hll.out h1'.out).mono ?_
        rintro e w7 ⟨u, rfl, hu, hB⟩
        rw [unlV_same] at hu
        obtain ⟨Au, cu, rfl, _, _, _⟩ := hu.reads
        have HB7 := Aside0.mk (below_step HB4.out hB)
        have HL7 := Aside0.mk (HL4.out.keep hB)
        have HG7 := Aside0.mk (HG4.out.keep hB)
        clear hu hB HB4 HL4 HG4 hby
        have hql : q < l.length := by have := hll.out; have := Hq.out; omega
        obtain ⟨x, hx⟩ : ∃ x, x = l[q] := ⟨_, rfl⟩
        have hrd : Aside0 (∀ W, FilmAt W gf qf l → Calls Tryd.prog 12 #[.pointer (some ⟨gf, 0, none⟩), .int .i64 (q : Int), .int .i64 1] W fun e w' => e = .returned (.tuple #[.string ⟨#[x]⟩, .int .i64 0]) ∧ w' = W) := ⟨fun W hW => by
          have h := film_read gf qf l q 1 W hW (by have := hll.out; have := h1'.out; omega) (by omega)
          rw [List.drop_eq_getElem_cons hql, List.take_succ_cons, List.take_zero, ← hx] at h
          exact h⟩
        replace hx := Aside0.mk hx
        have m1 := Hm1.out
        have m2 := Hm2.out
        go_wp2_with fail
        rw [Hq1.out, Hq2.out]
        clear m1 m2
        refine (hrd.out _ HL7.out).mono ?_
        rintro e w8 ⟨rfl, rfl⟩
        have hcv := u8_one b
        have hx1 : (⟨#[x]⟩ : ByteArray).size = 1 := rfl
        have hi0 : (⟨#[x]⟩ : ByteArray)[0]'(by show 0 < 1; omega) = x := rfl
        have hlx := hll.out
        have hqs := Aside0.mk hql
        go_wp2_with fail
        refine (film_write gg qg l q ⟨#[b]⟩ _ (HG7.out.keep (below_alloc (Below.refl _ _) _)) (by have := hll.out; have := h1'.out; omega) (by show q + 1 ≤ l.length; have := hqs.out; omega)).mono ?_
        rintro e w9 ⟨rfl, hf, ho⟩
        have HB9 := Aside0.mk (below_only (below_alloc HB7.out _) ho Hgg.out.2.1)
        have HL9 := Aside0.mk ((HL7.out.keep (below_alloc (Below.refl _ _) _)).only ho Hgg.out.2.2.1 Hgg.out.2.2.2)
        have HG9 : Aside0 (FilmAt w9 gg qg (spl l q [b])) := ⟨hf⟩
        have hlg := Aside0.mk ((spl_length l q [b] (by have := hqs.out; simp; omega)).trans hll.out)
        clear hf ho HB7 HL7 HG7 hcv
        go_wp2_with fail
        refine (hrd.out _ HL9.out).mono ?_
        rintro e wa ⟨rfl, rfl⟩
        go_wp2_with fail
        refine (film_unlike gf qf gg qg l (spl l q [b]) B B _ HL9.out HG9.out hll.out h1'.out hlg.out h1'.out).mono ?_
        rintro e wb ⟨u, rfl, hu, hB⟩
        have HBb := Aside0.mk (below_step HB9.out hB)
        rw [Nat.max_self] at hu
        clear hB
        by_cases hxb : x = b
        · rw [spl_self l q b hqs.out (hx.out.symm.trans hxb), unlV_same] at hu
          obtain ⟨Au, cu, rfl, _, _, _⟩ := hu.reads
          subst hxb
          clear hu
          go_wp2_with fail
          go_ret
          exact ⟨rfl, HBb.out⟩
        · rw [unl_one l B q b hll.out h1'.out hqs.out (by rw [← hx.out]; exact hxb)] at hu
          obtain ⟨gu, cu, rfl, _, _, _, hc, _⟩ := hu.opened (by simp)
          have x0 : wb.cell? ⟨gu, 0, none⟩ = some (.int .i64 ((q / 8 : Nat) : Int)) := (hc 0 _ rfl).1
          have x1 : wb.cell? ⟨gu, 1, none⟩ = some (.int .i64 1) := (hc 0 _ rfl).2
          have hxn : ((x.toNat : Int) == (b.toNat : Int)) = false := beq_eq_false_iff_ne.2 (fun h => hxb (UInt8.toNat_inj.1 (by omega)))
          have hxn2 : ¬ (x.toNat : Int) = (b.toNat : Int) := fun h => hxb (UInt8.toNat_inj.1 (by omega))
          clear hu hc
          go_wp2_with fail
          go_ret
          exact ⟨rfl, HBb.out⟩
theorem walk (B : Int) (A : Option Addr) (c : Nat) (ops : List SP) (t b : Int) (w : World) (_ : (Lit.int .i64 B).wf = true) (hc : ops.length ≤ c) (hC : Kd.C k31 w A ops.length ops) (_ : (Lit.int .i64 t).wf = true) (wb : (Lit.int .u8 b).wf = true) :
    Calls Tryd.prog 6 #[.int .i64 B, .slice A ops.length c, .int .i64 t, .int .u8 b] w fun e w' => e = .returned (.bool true) ∧ Below w.heap.size w w' := by
  by_cases h : B < 1 ∨ (¬ B < 1 ∧ 64 < B)
  · exact early B A ops.length c t b w h
  · obtain ⟨B', rfl⟩ := Int.eq_ofNat_of_zero_le (show 0 ≤ B by omega)
    have hb : 0 ≤ b ∧ b ≤ 255 := by
      simp [Lit.wf, IntKind.min, IntKind.max, IntKind.signed, IntKind.bits] at wb; omega
    obtain ⟨n, rfl⟩ := Int.eq_ofNat_of_zero_le hb.1
    have hn : ((UInt8.ofNat n).toNat : Int) = (n : Int) := by
      rw [UInt8.toNat_ofNat']; omega
    rw [← hn]
    exact main B' A c ops t (UInt8.ofNat n) w (by omega) (by omega) hc hC
end Go.Proofs.YtknphhcppllpoaaDoor.WFilmCopies
