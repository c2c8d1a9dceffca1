/- StillTwice, walked: one volume that is frozen twice. -/
import Derived.Test.YtknphhcppllpoaaStillL
import Derived.LaidEqlPtr
import Derived.Test.YtknphhcppllpoaaAx0
namespace Go.Proofs.Ytknphhcppllpoaa.WStillTwice
open Go.RowKit Go.Proofs.YtknphhcppllpoaaW.PrintWords Go.Proofs.YtknphhcppllpoaaW.PrintLast Go.Proofs.YtknphhcppllpoaaW.PrintMore Go.Proofs.Ytknphhcppllpoaa.A Go.Proofs.Ytknphhcppllpoaa.Hand
set_option linter.unusedVariables false
set_option linter.unusedSimpArgs false
attribute [local go_sem] max2_int min2_int max_two min_two max_three min_three max_four min_four
/-- May it be left out? -/
def Out (B : Int) (a b : ByteArray) (at_ : Int) : Prop := B < 1 ∨ (¬ B < 1 ∧ 30 < B) ∨ (¬ B < 1 ∧ ¬ 30 < B ∧ 200 < (a.size : Int)) ∨ (¬ B < 1 ∧ ¬ 30 < B ∧ ¬ 200 < (a.size : Int) ∧ 60 < (b.size : Int)) ∨ (¬ B < 1 ∧ ¬ 30 < B ∧ ¬ 200 < (a.size : Int) ∧ ¬ 60 < (b.size : Int) ∧ at_ < 0) ∨ (¬ B < 1 ∧ ¬ 30 < B ∧ ¬ 200 < (a.size : Int) ∧ ¬ 60 < (b.size : Int) ∧ ¬ at_ < 0 ∧ B * 8 - (b.size : Int) < at_)
set_option maxRecDepth 100000 in
set_option maxHeartbeats 800000 in
theorem early (B : Int) (a b : ByteArray) (at_ : Int) (w : World) (h : Out B a b at_) :
    Calls Try.prog 3 #[.int .i64 B, .string a, .string b, .int .i64 at_] w fun e w' => e = .returned (.bool true) ∧ Below w.heap.size w w' := by
  rcases h with h | ⟨h0, h⟩ | ⟨h0, h1, h⟩ | ⟨h0, h1, h2, h⟩ | ⟨h0, h1, h2, h3, h⟩ | ⟨h0, h1, h2, h3, h4, h⟩
  all_goals
    go_enter Try.func3, Try.ntmps3
    go_wp2_with (go_at_call 5; refine (alive5 _).mono ?_; rintro e w1 ⟨rfl, hB⟩)
    go_ret
    exact ⟨rfl, hB⟩
set_option maxRecDepth 100000 in
set_option maxHeartbeats 3200000 in
theorem main (B : Nat) (a b : ByteArray) (n : Nat) (w : World) (h0 : 1 ≤ B) (h1 : B ≤ 30) (h2 : a.size ≤ 200) (h3 : b.size ≤ 60) (h4 : n + b.size ≤ 8 * B) :
    Calls Try.prog 3 #[.int .i64 B, .string a, .string b, .int .i64 n] w fun e w' => e = .returned (.bool true) ∧ Below w.heap.size w w' := by
  obtain ⟨c, hc⟩ : ∃ c : Nat, c = min a.size (8 * B) := ⟨_, rfl⟩
  have hsz : (a.extract 0 c).size = c := by rw [ByteArray.size_extract]; omega
  have hmin : Aside0 ((min (a.size : Int) ((B : Int) * 8)) = (c : Int)) := ⟨by omega⟩
  have hc1 := Aside0.mk (show c ≤ 8 * B by omega)
  have hc2 : c ≤ a.size := by omega
  have n0 : ¬ (B : Int) < 1 := by omega
  have n1 : ¬ 30 < (B : Int) := by omega
  have n2 : ¬ 200 < (a.size : Int) := by omega
  have n3 : ¬ 60 < (b.size : Int) := by omega
  have n5 : ¬ (B : Int) * 8 - (b.size : Int) < (n : Int) := by omega
  have i0 : (1 : Int) ≤ (B : Int) := by omega
  have i1 : (B : Int) ≤ 30 := by omega
  have i2 : (a.size : Int) ≤ 200 := by omega
  have i3 : (b.size : Int) ≤ 60 := by omega
  have i4 : (n : Int) ≤ (B : Int) * 8 - (b.size : Int) := by omega
  have h0' := Aside0.mk h0
  have h1' := Aside0.mk (show B ≤ 64 by omega)
  have h4' := Aside0.mk h4
  replace hc := Aside0.mk hc
  replace hsz := Aside0.mk hsz
  have HB0 := Aside0.mk (Below.refl w.heap.size w)
  clear h0 h1 h2 h3 h4
  go_enter Try.func3, Try.ntmps3
  go_wp2_with fail
  refine (alive5 _).mono ?_
  rintro e w1 ⟨rfl, hB⟩
  have HB1 := Aside0.mk (below_step HB0.out hB)
  clear hB HB0
  go_wp2_with fail
  refine (film_new B h0'.out h1'.out _).mono ?_
  rintro e w2 ⟨gf, q, rfl, hg, hq, hf, hB⟩
  have HB2 := Aside0.mk (below_step HB1.out hB)
  have HF2 := Aside0.mk hf
  have Hg : Aside0 (w.heap.size ≤ gf ∧ w.heap.size ≤ q) := ⟨by have := HB1.out.size; omega⟩
  clear hB HB1 hf hg hq
  go_wp2_with fail
  refine (still_new gf _).mono ?_
  rintro e w3 ⟨gs, m, rfl, hg, hm1, hs, hm, hB⟩
  have HB3 := Aside0.mk (below_step HB2.out hB)
  have HF3 := Aside0.mk (HF2.out.keep hB)
  have HS3 := Aside0.mk hs
  have HM3 := Aside0.mk hm
  have Hs : Aside0 (w.heap.size ≤ gs ∧ w.heap.size ≤ m) := ⟨by have := HB2.out.size; omega⟩
  have Hne : Aside0 (gs ≠ q ∧ gs ≠ m) := ⟨(HF3.out.ne_blk hs (by decide) (by decide)).2.symm, hs.ne_map hm⟩
  clear hB HB2 HF2 hs hm hg hm1
  have hl0 := Aside0.mk (show (List.replicate (8 * B) (0 : UInt8)).length = 8 * B from List.length_replicate)
  generalize List.replicate (8 * B) (0 : UInt8) = l0 at *
  go_wp2_with fail
  all_goals
    refine (still_write gs gf q m l0 B 0 [] 0 _ _ HS3.out HF3.out HM3.out hl0.out h1'.out (by decide) (by have := hl0.out; first | omega | (rw [ByteArray.size_extract]; omega))).mono ?_
    rintro e w4 ⟨rfl, hf, hm, hch⟩
    obtain ⟨l1, hl1, hf⟩ : ∃ l1 : List UInt8, Aside0 (l1.length = 8 * B) ∧ FilmAt w4 gf q l1 := ⟨_, ⟨(spl_length _ _ _ (by rw [Array.length_toList]; have := hl0.out; first | (show 0 + a.size ≤ _; omega) | (show 0 + (a.extract 0 _).size ≤ _; rw [ByteArray.size_extract]; omega))).trans hl0.out⟩, hf⟩
    obtain ⟨t1, hm⟩ : ∃ t1, MapAt w4 m (keepE l0 0 0 t1 []) := ⟨_, hm⟩
    have HB4 := Aside0.mk (below_chg HB3.out hch (by intro i hi; simp only [List.mem_cons, List.mem_nil_iff, or_false] at hi; have := Hg.out; have := Hs.out; omega))
    have HF4 := Aside0.mk hf
    have HM4 := Aside0.mk hm
    have HS4 := Aside0.mk (HS3.out.chg hch (by simp only [List.mem_cons, List.mem_nil_iff, or_false]; have := Hne.out; omega))
    clear hf hm hch HB3 HF3 HM3 HS3
    go_wp2_with fail
    refine (film_bytes gf q l1 _ HF4.out).mono ?_
    rintro e w5 ⟨rfl, rfl⟩
    generalize hW : (⟨l1.toArray⟩ : ByteArray) = W
    replace hW := Aside0.mk hW
    go_wp2_with fail
    refine (still_new gf _).mono ?_
    rintro e w6 ⟨gt, mt, rfl, hg, hm1, hs, hm, hB⟩
    have HB6 := Aside0.mk (below_step HB4.out hB)
    have HF6 := Aside0.mk (HF4.out.keep hB)
    have HS6 := Aside0.mk (HS4.out.keep hB)
    have HM6 := Aside0.mk (HM4.out.keep hB)
    have HT6 := Aside0.mk hs
    have HN6 := Aside0.mk hm
    have Ht : Aside0 (w.heap.size ≤ gt ∧ w.heap.size ≤ mt) := ⟨by have := HB4.out.size; omega⟩
    have Hnt : Aside0 (gt ≠ q ∧ gt ≠ mt ∧ gs ≠ mt ∧ m ≠ mt) := ⟨(HF6.out.ne_blk hs (by decide) (by decide)).2.symm, hs.ne_map hm, by have := HS4.out.lt; omega, by have := HM4.out.lt; omega⟩
    have Hnm : Aside0 (m ≠ q) := ⟨fun e => (HF6.out.ne_map HM6.out).2 e.symm⟩
    clear hB HB4 HF4 HS4 HM4 hs hm hg hm1
    go_wp2_with fail
    refine (still_write gt gf q mt l1 B n [] 0 b _ HT6.out HF6.out HN6.out hl1.out h1'.out (by decide) (by have := hl1.out; have := h4'.out; omega)).mono ?_
    rintro e w7 ⟨rfl, hf, hm, hch⟩
    have hbl : b.data.toList.length = b.size := by rw [Array.length_toList]; rfl
    have hl2 := Aside0.mk ((spl_length l1 n b.data.toList (by rw [hbl, hl1.out]; exact h4'.out)).trans hl1.out)
    have hsh : Aside0 (∀ k, k < B → (lookE (k : Int) (keepE l1 0 (n / 8) (touchN n b.size) [])).getD (.string (blkS (spl l1 n b.data.toList) k)) = .string (blkS l1 k)) := ⟨fun k hk => by
      have := shown_eq l1 B n b.data.toList k hl1.out hk (by rw [hbl, hl1.out]; exact h4'.out)
      rwa [hbl] at this⟩
    generalize spl l1 n b.data.toList = l2 at *
    generalize keepE l1 0 (n / 8) (touchN n b.size) [] = E2 at *
    have HB7 := Aside0.mk (below_chg HB6.out hch (by intro i hi; simp only [List.mem_cons, List.mem_nil_iff, or_false] at hi; have := Hg.out; have := Ht.out; omega))
    have HF7 := Aside0.mk hf
    have HN7 := Aside0.mk hm
    have HS7 := Aside0.mk (HS6.out.chg hch (by simp only [List.mem_cons, List.mem_nil_iff, or_false]; have := Hne.out; have := Hnt.out; omega))
    have HM7 := Aside0.mk (HM6.out.chg hch (by simp only [List.mem_cons, List.mem_nil_iff, or_false]; have := Hnm.out; have := Hnt.out; omega))
    have HT7 := Aside0.mk (HT6.out.chg hch (by simp only [List.mem_cons, List.mem_nil_iff, or_false]; have := Hnt.out; omega))
    clear hf hm hch hbl HB6 HF6 HS6 HM6 HT6 HN6
    clear n5 hc2
    go_wp2_with fail
    go_loopg [16, 17] B (fun kq u v wq => ∃ k : Nat, k + kq = B ∧ u = .string ⟨(l1.take (8 * k)).toArray⟩ ∧ v = .int .i64 (k : Int) ∧ wq = w7)
    case atStart => exact ⟨0, by omega, rfl, rfl, rfl⟩
    case round =>
      obtain ⟨k, hk, rfl, rfl, rfl⟩ := hrel
      by_cases hlt : k < B
      · obtain ⟨kk, rfl⟩ : ∃ z, gk = z + 1 := ⟨gk - 1, by omega⟩
        have hlt' : (k : Int) < (B : Int) := by omega
        have hsx := blkS_size l1 B k hl1.out hlt
        obtain ⟨R, hR, hsr⟩ := shown_size l0 l2 B 0 t1 k hl0.out hl2.out hlt
        have hR := Aside0.mk hR
        have hX := Aside0.mk (hsh.out k hlt)
        have hone := Aside0.mk (take_blk l1 B k hl1.out hlt)
        have hsa : ((⟨(l1.take (8 * k)).toArray⟩ : ByteArray).size : Int) ≤ 512 := by
          show ((((l1.take (8 * k)).toArray.size : Nat)) : Int) ≤ 512
          rw [List.size_toArray, List.length_take]; omega
        generalize blkS l1 k = X at *
        generalize (⟨(l1.take (8 * k)).toArray⟩ : ByteArray) = A at *
        have hlt := Aside0.mk hlt
        go_wp2_with fail
        refine (still_block gt gf q mt l2 B k E2 0 _ HT7.out HF7.out HN7.out hl2.out h1'.out hlt.out X hX.out).mono ?_
        rintro e w8 ⟨rfl, rfl⟩
        go_wp2_with fail
        refine (still_block gs gf q m l2 B k _ 0 _ HS7.out HF7.out HM7.out hl2.out h1'.out hlt.out R hR.out).mono ?_
        rintro e w9 ⟨rfl, rfl⟩
        go_wp2_with fail
        go_roundg kk
        case measure => omega
        case rel => exact ⟨k + 1, by omega, by rw [← hone.out], by go_num, rfl⟩
      · obtain rfl : k = B := by omega
        have hlt' : ¬ (k : Int) < (k : Int) := by omega
        rw [List.take_of_length_le (by have := hl1.out; omega), hW.out]
        go_wp2_with fail
        refine (still_now gt gf mt 0 _ HT7.out).mono ?_
        rintro e w8 ⟨rfl, rfl⟩
        obtain ⟨j, hj⟩ : ∃ j, Try.prog.info? 52 = some j := Option.isSome_iff_exists.1 (by kernel_rfl)
        have hpp := run_eql_ptr_same (P := Try.prog) (w := w8) (⟨gf, 0, none⟩ : Addr) Try.underlying23 hj
        clear hj
        go_wp2_with fail
        go_ret
        exact ⟨rfl, HB7.out⟩
theorem walk (B : Int) (a b : ByteArray) (n : Int) (w : World) (wB : (Lit.int .i64 B).wf = true) (wa : a.size ≤ 140737488351232) (wb : b.size ≤ 140737488351232) (wn : (Lit.int .i64 n).wf = true) :
    Calls Try.prog 3 #[.int .i64 B, .string a, .string b, .int .i64 n] w fun e w' => e = .returned (.bool true) ∧ Below w.heap.size w w' := by
  by_cases h : Out B a b n
  · exact early B a b n w h
  · unfold Out at h
    obtain ⟨B', rfl⟩ := Int.eq_ofNat_of_zero_le (show 0 ≤ B by omega)
    obtain ⟨n', rfl⟩ := Int.eq_ofNat_of_zero_le (show 0 ≤ n by omega)
    exact main B' a b n' w (by omega) (by omega) (by omega) (by omega) (by omega)
end Go.Proofs.Ytknphhcppllpoaa.WStillTwice
