/- dirt.Read: the marks of bytes. -/
import Derived.Test.YtffemlfdhkndiaaDirtLaws
import Derived.Test.YtffemlfdhkndiaaDirtSets
import Derived.Test.YtffemlfdhkndiaaAx22
namespace Go.Proofs.Ytffemlfdhkndiaa.Hand
open Go.RowKit Go.Proofs.YtffemlfdhkndiaaW.PrintWords Go.Proofs.YtffemlfdhkndiaaW.PrintLast Go.Proofs.YtffemlfdhkndiaaW.PrintMore Go.Proofs.Ytffemlfdhkndiaa.A Go.Proofs.Ytffemlfdhkndiaa.Bits
set_option linter.unusedVariables false
set_option linter.unusedSimpArgs false
attribute [local go_sem] max2_int min2_int max_two min_two max_three min_three max_four min_four
/-- The word of so many bytes. -/
def wordB (b : List Nat) : Nat → Nat
  | 0 => 0
  | i + 1 => wordB b i + b.getD i 0 * 256 ^ i
theorem wordB_lt (b : List Nat) (hb : ∀ x ∈ b, x < 256) : ∀ i, wordB b i < 256 ^ i
  | 0 => Nat.lt_succ_self 0
  | i + 1 => by
    have h1 := wordB_lt b hb i
    have h2 : b.getD i 0 < 256 := by
      rw [List.getD_eq_getElem?_getD]
      cases h : b[i]? with
      | none => decide
      | some x => exact hb x (List.mem_of_getElem? h)
    have h3 : b.getD i 0 * 256 ^ i ≤ 255 * 256 ^ i := Nat.mul_le_mul_right _ (by omega)
    show wordB b i + b.getD i 0 * 256 ^ i < 256 ^ (i + 1)
    rw [Nat.pow_succ]
    omega
theorem wordB_or (b : List Nat) (hb : ∀ x ∈ b, x < 256) (i : Nat) : wordB b i ||| b.getD i 0 * 256 ^ i = wordB b (i + 1) := by
  have h := wordB_lt b hb i
  rw [show (256 : Nat) = 2 ^ 8 by decide, ← Nat.pow_mul] at h ⊢
  show _ = wordB b i + b.getD i 0 * 256 ^ i
  rw [show (256 : Nat) = 2 ^ 8 by decide, ← Nat.pow_mul, Nat.or_comm, Nat.mul_comm, ← Nat.two_pow_add_eq_or_of_lt h, Nat.add_comm]
theorem below_drewN {B : Nat} {a w : World} (h : Below B a w) (n : Nat) : Below B a (w.drewN n) := h.trans ⟨rfl, rfl, rfl, Nat.le_refl _, fun _ _ => rfl⟩
theorem below_setG {B : Nat} {w W : World} (hB : w.heap.size = B) (h : Below B w W) (o : Nat) (u : Value) : Below B w (W.setCell ⟨B, o, none⟩ u) := by
  subst hB; exact below_set h (Nat.le_refl _)
theorem put_byte (v i : Nat) (hv : v < 256) (hi : i < 8) : IntKind.u64.wrap (IntKind.u64.wrap ((v : Nat) : Int) * 2 ^ min (IntKind.u64.wrap (wrap64 (8 * (i : Int)))).toNat 64) = ((v * 256 ^ i : Nat) : Int) ∧ v * 256 ^ i < 18446744073709551616 := by
  have h1 : (256 : Nat) ^ i ≤ 256 ^ 7 := Nat.pow_le_pow_right (by decide) (by omega)
  have h2 : v * 256 ^ i ≤ 255 * 256 ^ 7 := Nat.mul_le_mul (by omega) h1
  have h3 : v * 256 ^ i < 18446744073709551616 := Nat.lt_of_le_of_lt h2 (by decide)
  refine ⟨?_, h3⟩
  rw [w_id (by omega) (by omega), wrap_u64 ((v : Nat) : Int), wrap_u64 (8 * (i : Int)), show ((v : Nat) : Int) % 18446744073709551616 = v by omega, show (8 * (i : Int)) % 18446744073709551616 = ((8 * i : Nat) : Int) by omega, Int.toNat_natCast, show min (8 * i) 64 = 8 * i by omega, wrap_u64,
    show (2 : Int) ^ (8 * i) = ((256 ^ i : Nat) : Int) by rw [Int.natCast_pow, Int.pow_mul]; rfl, ← Int.natCast_mul]
  omega
def natsOf (b : ByteArray) : List Nat := b.data.toList.map UInt8.toNat
theorem natsOf_lt (b : ByteArray) : ∀ x ∈ natsOf b, x < 256 := by
  intro x hx
  unfold natsOf at hx
  obtain ⟨y, _, rfl⟩ := List.mem_map.1 hx
  exact UInt8.toNat_lt y
theorem wordB_small (b : ByteArray) (i : Nat) (h : i ≤ 8) : wordB (natsOf b) i < 18446744073709551616 :=
  Nat.lt_of_lt_of_le (wordB_lt _ (natsOf_lt b) i) (Nat.le_trans (Nat.pow_le_pow_right (by decide) h) (by decide))
set_option maxRecDepth 100000 in
theorem dirt_read_ok (b : ByteArray) (n : Nat) (hn : n ≤ 64) (hl : b.size = (n + 7) / 8) (w : World) :
    Calls Try.prog 23 #[.string b, .int .i64 (n : Int)] w fun e w' => ((minus (wordB (natsOf b) b.size) (ones 0 n) = 0 ∧ e = .returned (.tuple #[ptr w.heap.size, .int .i64 0]) ∧ DirtAt w' w.heap.size n (wordB (natsOf b) b.size)) ∨ (minus (wordB (natsOf b) b.size) (ones 0 n) ≠ 0 ∧ e = .returned (.tuple #[.pointer none, .int .i64 8]))) ∧ Below w.heap.size w w' := by
  have i0 : (0 : Int) ≤ (n : Int) := by omega
  have i1 : (n : Int) ≤ 64 := by omega
  have i2 : (b.size : Int) ≤ 8 := by omega
  have hl' : ((b.size : Nat) : Int) = (((n + 7) / 8 : Nat) : Int) := by omega
  go_enter Try.func23, Try.ntmps23
  go_wp2_with fail
  refine (dirt_new (n : Int) _).mono ?_
  rintro e w1 ⟨rfl, hd, hB⟩
  rw [show (min (max (n : Int) 0) 64).toNat = n by omega] at hd
  have HB : Aside0 (Below w.heap.size w w1) := ⟨hB⟩
  have HD := Aside0.mk hd
  clear hB hd
  go_wp2_with fail
  refine (dirt_bytes w.heap.size n 0 hn (by decide) _ HD.out).mono ?_
  rintro e w2 ⟨rfl, hB⟩
  have hsz : (strOfNums (bytesD n 0)).size = (n + 7) / 8 := by rw [strOfNums_size, bytesD_length]
  go_wp2_with fail
  have HD2 := Aside0.mk (HD.out.keep hB)
  have HB2 : Aside0 (Below w.heap.size w w2) := ⟨below_step HB.out hB⟩
  clear hB HB HD hsz
  generalize hg : w.heap.size = g at *
  go_loopg [24] b.size (fun kq v wq => ∃ i : Nat, i + kq = b.size ∧ v = .int .i64 (i : Int) ∧ Aside0 (Below g w wq) ∧ Aside0 (DirtAt wq g n (wordB (natsOf b) i)))
  case atStart => exact ⟨0, by omega, rfl, HB2, HD2⟩
  case round =>
    clear HB2 HD2
    obtain ⟨i, hi, rfl, HB, HD⟩ := hrel
    by_cases hlt : i < b.size
    · have hlt' : (i : Int) < ((n : Int) + 7) / 8 := by omega
      have hk0 : (0 : Int) ≤ (i : Int) := by omega
      have c1 : wr.cell? ⟨g, 1, none⟩ = some (.int .u64 ((wordB (natsOf b) i : Nat) : Int)) := HD.out.cell rfl
      have f1 := HD.out.frozen 1
      obtain ⟨kk, rfl⟩ : ∃ q, gk = q + 1 := ⟨gk - 1, by omega⟩
      have Hx : Aside0 (wordB (natsOf b) i < 18446744073709551616 ∧ wordB (natsOf b) i ||| (natsOf b).getD i 0 * 256 ^ i = wordB (natsOf b) (i + 1)) := ⟨wordB_small b i (by omega), wordB_or _ (natsOf_lt b) i⟩
      generalize wordB (natsOf b) i = x at *
      have hlt2 : (i : Int) < (b.size : Int) := by omega
      have hgw : Aside0 (w.heap.size ≤ g) := ⟨by omega⟩
      go_wp2_with fail
      refine start_ (n := 16) (S := fun w' => Below g w w' ∧ DirtAt w' g n x ∧ w'.cell? ⟨g, 1, none⟩ = some (.int .u64 ((x : Nat) : Int)) ∧ w'.frozen? ⟨g, 1, none⟩ = false) (ds := [15]) #[false, false, false, false, false, false, false, false, false, false, false, false, false, false, false, false] (by kernel_rfl) rfl rfl ⟨(below_drew1 HB.out), (Blk.drew HD.out), c1, f1⟩ (fun hHeld => ?_)
      refine pure_ (i := 0) (N := some 27) (v := ?_) (a' := ?_) #[true, false, false, false, false, false, false, false, false, false, false, false, false, false, false, false] rfl rfl (by kernel_rfl) (fun _ _ _ h => h) (Or.inl ⟨by rfl, ?_⟩) ?_ ?_
      rotate_left
      · intro w'
        go_simp
        with_reducible rfl
      rotate_left
      · simp only [Act.put, List.setIfInBounds_toArray, List.set_cons_zero, List.set_cons_succ, i64_w, i32_w]
        rfl
      refine pure_ (i := 1) (N := some 28) (v := ?_) (a' := ?_) #[true, true, false, false, false, false, false, false, false, false, false, false, false, false, false, false] rfl rfl (by kernel_rfl) (fun _ _ _ h => h) (Or.inl ⟨by rfl, ?_⟩) ?_ ?_
      rotate_left
      · intro w'
        go_simp
        with_reducible rfl
      rotate_left
      · simp only [Act.put, List.setIfInBounds_toArray, List.set_cons_zero, List.set_cons_succ, i64_w, i32_w]
        rfl
      refine pure_ (i := 2) (N := some 29) (v := ?_) (a' := ?_) #[true, true, true, false, false, false, false, false, false, false, false, false, false, false, false, false] rfl rfl (by kernel_rfl) (fun _ _ _ h => h) (Or.inl ⟨by rfl, ?_⟩) ?_ ?_
      rotate_left
      · intro w'
        go_simp
        with_reducible rfl
      rotate_left
      · simp only [Act.put, List.setIfInBounds_toArray, List.set_cons_zero, List.set_cons_succ, i64_w, i32_w]
        rfl
      refine pure_ (i := 4) (N := some 31) (v := ?_) (a' := ?_) #[true, true, true, false, true, false, false, false, false, false, false, false, false, false, false, false] rfl rfl (by kernel_rfl) (fun _ _ _ h => h) (Or.inl ⟨by rfl, ?_⟩) ?_ ?_
      rotate_left
      · intro w'
        go_simp
        with_reducible rfl
      rotate_left
      · simp only [Act.put, List.setIfInBounds_toArray, List.set_cons_zero, List.set_cons_succ, i64_w, i32_w]
        rfl
      refine pure_ (i := 5) (N := some 32) (v := ?_) (a' := ?_) #[true, true, true, false, true, true, false, false, false, false, false, false, false, false, false, false] rfl rfl (by kernel_rfl) (fun _ _ _ h => h) (Or.inl ⟨by rfl, ?_⟩) ?_ ?_
      rotate_left
      · intro w'
        go_simp
        with_reducible rfl
      rotate_left
      · simp only [Act.put, List.setIfInBounds_toArray, List.set_cons_zero, List.set_cons_succ, i64_w, i32_w]
        rfl
      refine pure_ (i := 8) (N := some 35) (v := ?_) (a' := ?_) #[true, true, true, false, true, true, false, false, true, false, false, false, false, false, false, false] rfl rfl (by kernel_rfl) (fun _ _ _ h => h) (Or.inl ⟨by rfl, ?_⟩) ?_ ?_
      rotate_left
      · intro w'
        go_simp
        with_reducible rfl
      rotate_left
      · simp only [Act.put, List.setIfInBounds_toArray, List.set_cons_zero, List.set_cons_succ, i64_w, i32_w]
        rfl
      refine pure_ (i := 9) (N := some 36) (v := ?_) (a' := ?_) #[true, true, true, false, true, true, false, false, true, true, false, false, false, false, false, false] rfl rfl (by kernel_rfl) (fun _ _ _ h => h) (Or.inl ⟨by rfl, ?_⟩) ?_ ?_
      rotate_left
      · intro w'
        go_simp
        with_reducible rfl
      rotate_left
      · simp only [Act.put, List.setIfInBounds_toArray, List.set_cons_zero, List.set_cons_succ, i64_w, i32_w]
        rfl
      refine pure_ (i := 10) (N := some 37) (v := ?_) (a' := ?_) #[true, true, true, false, true, true, false, false, true, true, true, false, false, false, false, false] rfl rfl (by kernel_rfl) (fun _ _ _ h => h) (Or.inl ⟨by rfl, ?_⟩) ?_ ?_
      rotate_left
      · intro w'
        go_simp
        with_reducible rfl
      rotate_left
      · simp only [Act.put, List.setIfInBounds_toArray, List.set_cons_zero, List.set_cons_succ, i64_w, i32_w]
        rfl
      refine take_ (i := 3) (N := some 30) (v := ?_) (a' := ?_) #[true, true, true, true, true, true, false, false, true, true, true, false, false, false, false, false] rfl rfl (by kernel_rfl) (fun _ _ _ h => h) (Or.inl ⟨by rfl, ?_⟩) hHeld ?_ ?_
      rotate_left
      · rintro w' ⟨s0, s1, s2, s3⟩
        go_simp
        with_reducible rfl
      rotate_left
      · simp only [Act.put, List.setIfInBounds_toArray, List.set_cons_zero, List.set_cons_succ, i64_w, i32_w]
        rfl
      refine take_ (i := 6) (N := some 33) (v := ?_) (a' := ?_) #[true, true, true, true, true, true, true, false, true, true, true, false, false, false, false, false] rfl rfl (by kernel_rfl) (fun _ _ _ h => h) (Or.inl ⟨by rfl, ?_⟩) hHeld ?_ ?_
      rotate_left
      · rintro w' ⟨s0, s1, s2, s3⟩
        go_simp
        with_reducible rfl
      rotate_left
      · simp only [Act.put, List.setIfInBounds_toArray, List.set_cons_zero, List.set_cons_succ, i64_w, i32_w]
        rfl
      refine pure_ (i := 7) (N := some 34) (v := ?_) (a' := ?_) #[true, true, true, true, true, true, true, true, true, true, true, false, false, false, false, false] rfl rfl (by kernel_rfl) (fun _ _ _ h => h) (Or.inl ⟨by rfl, ?_⟩) ?_ ?_
      rotate_left
      · intro w'
        go_simp
        with_reducible rfl
      rotate_left
      · simp only [Act.put, List.setIfInBounds_toArray, List.set_cons_zero, List.set_cons_succ, i64_w, i32_w]
        rfl
      refine pure_ (i := 11) (N := some 38) (v := ?_) (a' := ?_) #[true, true, true, true, true, true, true, true, true, true, true, true, false, false, false, false] rfl rfl (by kernel_rfl) (fun _ _ _ h => h) (Or.inl ⟨by rfl, ?_⟩) ?_ ?_
      rotate_left
      · intro w'
        go_simp
        with_reducible rfl
      rotate_left
      · simp only [Act.put, List.setIfInBounds_toArray, List.set_cons_zero, List.set_cons_succ, i64_w, i32_w]
        rfl
      refine pure_ (i := 12) (N := some 39) (v := ?_) (a' := ?_) #[true, true, true, true, true, true, true, true, true, true, true, true, true, false, false, false] rfl rfl (by kernel_rfl) (fun _ _ _ h => h) (Or.inl ⟨by rfl, ?_⟩) ?_ ?_
      rotate_left
      · intro w'
        go_simp
        with_reducible rfl
      rotate_left
      · simp only [Act.put, List.setIfInBounds_toArray, List.set_cons_zero, List.set_cons_succ, i64_w, i32_w]
        rfl
      refine pure_ (i := 13) (N := some 40) (v := ?_) (a' := ?_) #[true, true, true, true, true, true, true, true, true, true, true, true, true, true, false, false] rfl rfl (by kernel_rfl) (fun _ _ _ h => h) (Or.inl ⟨by rfl, ?_⟩) ?_ ?_
      rotate_left
      · intro w'
        go_simp
        with_reducible rfl
      rotate_left
      · simp only [Act.put, List.setIfInBounds_toArray, List.set_cons_zero, List.set_cons_succ, i64_w, i32_w]
        rfl
      refine pure_ (i := 14) (N := some 41) (v := ?_) (a' := ?_) #[true, true, true, true, true, true, true, true, true, true, true, true, true, true, true, false] rfl rfl (by kernel_rfl) (fun _ _ _ h => h) (Or.inl ⟨by rfl, ?_⟩) ?_ ?_
      rotate_left
      · intro w'
        go_simp
        with_reducible rfl
      rotate_left
      · simp only [Act.put, List.setIfInBounds_toArray, List.set_cons_zero, List.set_cons_succ, i64_w, i32_w]
        rfl
      refine last_ (i := 15) (N := none) #[true, true, true, true, true, true, true, true, true, true, true, true, true, true, true, true] rfl rfl (by kernel_rfl) (by decide) (fun K hK => ?_)
      refine skip_ (w1 := ?_) (by rfl) rfl ?_ ?_
      rotate_left
      · go_simp
        rfl
      refine hK.out _ _ ?_
      clear hK K
      refine done_ (by kernel_rfl) ?_
      go_wp2_with fail
      go_roundg kk
      case measure => omega
      case rel =>
        refine ⟨i + 1, by omega, by go_num, ⟨below_setG hg (below_drew1 HB.out) 1 _⟩, ⟨?_⟩⟩
        have hbi : (natsOf b).getD i 0 = b[i].toNat := by
          unfold natsOf
          rw [List.getD_eq_getElem?_getD, List.getElem?_map, List.getElem?_eq_getElem (show i < b.data.toList.length from hlt)]
          rfl
        have hput := put_byte b[i].toNat i (UInt8.toNat_lt _) (by omega)
        rw [hput.1, or_u64 _ _ Hx.out.1 hput.2, ← hbi, Hx.out.2]
        exact (Blk.set_ HD.out 1 _).drew
    · have hlt' : ¬ (i : Int) < ((n : Int) + 7) / 8 := by omega
      have c0 : wr.cell? ⟨g, 0, none⟩ = some (.int .i64 (n : Int)) := HD.out.cell rfl
      have c1 : wr.cell? ⟨g, 1, none⟩ = some (.int .u64 ((wordB (natsOf b) i : Nat) : Int)) := HD.out.cell rfl
      have Hr : Aside0 (dirt_run.f 0 (n : Int) = some ((ones 0 n : Nat) : Int)) := ⟨run_eq 0 n (by omega)⟩
      have hx := Aside0.mk (wordB_small b i (by omega))
      have e2 := Aside0.mk (andNot_u64 (wordB (natsOf b) i) (ones 0 n) hx.out (ones_lt 0 n (by omega)))
      obtain rfl : i = b.size := by omega
      generalize hgx : wordB (natsOf b) b.size = x at *
      replace hgx := Aside0.mk hgx
      generalize hgm : ones 0 n = m at *
      replace hgm := Aside0.mk hgm
      go_wp2_with fail
      refine start_ (n := 11) (S := fun w' => Below g w w' ∧ DirtAt w' g n x ∧ w'.cell? ⟨g, 1, none⟩ = some (.int .u64 ((x : Nat) : Int)) ∧ w'.cell? ⟨g, 0, none⟩ = some (.int .i64 (n : Int))) (ds := []) #[false, false, false, false, false, false, false, false, false, false, false] (by kernel_rfl) rfl rfl ⟨(below_drew1 HB.out), (Blk.drew HD.out), c1, c0⟩ (fun hHeld => ?_)
      refine pure_ (i := 0) (N := some 43) (v := ?_) (a' := ?_) #[true, false, false, false, false, false, false, false, false, false, false] rfl rfl (by kernel_rfl) (fun _ _ _ h => h) (Or.inl ⟨by rfl, ?_⟩) ?_ ?_
      rotate_left
      · intro w'
        go_simp
        with_reducible rfl
      rotate_left
      · simp only [Act.put, List.setIfInBounds_toArray, List.set_cons_zero, List.set_cons_succ, i64_w, i32_w]
        rfl
      refine pure_ (i := 1) (N := some 44) (v := ?_) (a' := ?_) #[true, true, false, false, false, false, false, false, false, false, false] rfl rfl (by kernel_rfl) (fun _ _ _ h => h) (Or.inl ⟨by rfl, ?_⟩) ?_ ?_
      rotate_left
      · intro w'
        go_simp
        with_reducible rfl
      rotate_left
      · simp only [Act.put, List.setIfInBounds_toArray, List.set_cons_zero, List.set_cons_succ, i64_w, i32_w]
        rfl
      refine pure_ (i := 2) (N := some 45) (v := ?_) (a' := ?_) #[true, true, true, false, false, false, false, false, false, false, false] rfl rfl (by kernel_rfl) (fun _ _ _ h => h) (Or.inl ⟨by rfl, ?_⟩) ?_ ?_
      rotate_left
      · intro w'
        go_simp
        with_reducible rfl
      rotate_left
      · simp only [Act.put, List.setIfInBounds_toArray, List.set_cons_zero, List.set_cons_succ, i64_w, i32_w]
        rfl
      refine pure_ (i := 4) (N := some 47) (v := ?_) (a' := ?_) #[true, true, true, false, true, false, false, false, false, false, false] rfl rfl (by kernel_rfl) (fun _ _ _ h => h) (Or.inl ⟨by rfl, ?_⟩) ?_ ?_
      rotate_left
      · intro w'
        go_simp
        with_reducible rfl
      rotate_left
      · simp only [Act.put, List.setIfInBounds_toArray, List.set_cons_zero, List.set_cons_succ, i64_w, i32_w]
        rfl
      refine pure_ (i := 5) (N := some 48) (v := ?_) (a' := ?_) #[true, true, true, false, true, true, false, false, false, false, false] rfl rfl (by kernel_rfl) (fun _ _ _ h => h) (Or.inl ⟨by rfl, ?_⟩) ?_ ?_
      rotate_left
      · intro w'
        go_simp
        with_reducible rfl
      rotate_left
      · simp only [Act.put, List.setIfInBounds_toArray, List.set_cons_zero, List.set_cons_succ, i64_w, i32_w]
        rfl
      refine pure_ (i := 6) (N := some 49) (v := ?_) (a' := ?_) #[true, true, true, false, true, true, true, false, false, false, false] rfl rfl (by kernel_rfl) (fun _ _ _ h => h) (Or.inl ⟨by rfl, ?_⟩) ?_ ?_
      rotate_left
      · intro w'
        go_simp
        with_reducible rfl
      rotate_left
      · simp only [Act.put, List.setIfInBounds_toArray, List.set_cons_zero, List.set_cons_succ, i64_w, i32_w]
        rfl
      refine take_ (i := 3) (N := some 46) (v := ?_) (a' := ?_) #[true, true, true, true, true, true, true, false, false, false, false] rfl rfl (by kernel_rfl) (fun _ _ _ h => h) (Or.inl ⟨by rfl, ?_⟩) hHeld ?_ ?_
      rotate_left
      · rintro w' ⟨s0, s1, s2, s3⟩
        go_simp
        with_reducible rfl
      rotate_left
      · simp only [Act.put, List.setIfInBounds_toArray, List.set_cons_zero, List.set_cons_succ, i64_w, i32_w]
        rfl
      refine take_ (i := 7) (N := some 50) (v := ?_) (a' := ?_) #[true, true, true, true, true, true, true, true, false, false, false] rfl rfl (by kernel_rfl) (fun _ _ _ h => h) (Or.inl ⟨by rfl, ?_⟩) hHeld ?_ ?_
      rotate_left
      · rintro w' ⟨s0, s1, s2, s3⟩
        go_simp
        with_reducible rfl
      rotate_left
      · simp only [Act.put, List.setIfInBounds_toArray, List.set_cons_zero, List.set_cons_succ, i64_w, i32_w]
        rfl
      refine one_ (i := 8) (N := some 51) #[true, true, true, true, true, true, true, true, true, false, false] rfl rfl (by kernel_rfl) (by decide) (fun K hK => ?_)
      refine goes_ Try.func52 (by kernel_rfl) rfl #[.int .i64 0, .int .i64 (n : Int)] (by rfl) rfl rfl (by simp only [List.map_toArray, List.map_cons, List.map_nil]; rfl) ?_
      with_reducible refine (dirt_run.calls 0 (n : Int) (m : Int) _ Hr.out).mono ?_
      rintro e w16 ⟨rfl, ⟨n1, rfl⟩⟩
      refine ⟨_, rfl, ?_⟩
      have hEnd := And.intro (below_drewN hHeld.1 n1) (Blk.drewN hHeld.2.1 n1)
      refine hK.out _ _ ⟨(below_drewN hHeld.1 n1), (Blk.drewN hHeld.2.1 n1), hHeld.2.2.1, hHeld.2.2.2⟩ (fun hHeld => ?_)
      clear hK K
      refine norm_ (a' := ?_) ?_ ?_
      rotate_left
      · show Act.put _ (some 51) _ = _
        simp only [Act.put, List.setIfInBounds_toArray, List.set_cons_zero, List.set_cons_succ, i64_w, i32_w]
        rfl
      refine pure_ (i := 9) (N := some 52) (v := ?_) (a' := ?_) #[true, true, true, true, true, true, true, true, true, true, false] rfl rfl (by kernel_rfl) (fun _ _ _ h => h) (Or.inl ⟨by rfl, ?_⟩) ?_ ?_
      rotate_left
      · intro w'
        go_simp
        with_reducible rfl
      rotate_left
      · simp only [Act.put, List.setIfInBounds_toArray, List.set_cons_zero, List.set_cons_succ, i64_w, i32_w]
        rfl
      refine pure_ (i := 10) (N := some 53) (v := ?_) (a' := ?_) #[true, true, true, true, true, true, true, true, true, true, true] rfl rfl (by kernel_rfl) (fun _ _ _ h => h) (Or.inl ⟨by rfl, ?_⟩) ?_ ?_
      rotate_left
      · intro w'
        go_simp
        with_reducible rfl
      rotate_left
      · simp only [Act.put, List.setIfInBounds_toArray, List.set_cons_zero, List.set_cons_succ, i64_w, i32_w]
        rfl
      refine done_ (by kernel_rfl) ?_
      rw [e2.out]
      by_cases hz : minus x m = 0
      · rw [hz]
        have hE := Aside0.mk hEnd
        have hz' := Aside0.mk hz
        clear hEnd hz
        go_wp2_with fail
        go_ret2
        cases hgx.out; cases hgm.out; cases hg
        exact ⟨Or.inl ⟨hz'.out, rfl, hE.out.2⟩, hE.out.1⟩
      · have hne : ¬ ((minus x m : Nat) : Int) = 0 := by omega
        have hE := Aside0.mk hEnd
        have hz' := Aside0.mk hz
        clear hEnd hz
        generalize hgy : minus x m = y at *
        replace hgy := Aside0.mk hgy
        go_wp2_with fail
        go_ret2
        cases hgx.out; cases hgm.out; cases hg
        exact ⟨Or.inr ⟨hgy.out ▸ hz'.out, rfl⟩, hE.out.1⟩
end Go.Proofs.Ytffemlfdhkndiaa.Hand
