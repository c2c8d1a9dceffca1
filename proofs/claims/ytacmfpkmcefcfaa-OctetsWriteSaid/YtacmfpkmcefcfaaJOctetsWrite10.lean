/- Parts of the proof for OctetsWrite: Li13, WaOctetsWrite. -/
import Derived.Test.YtacmfpkmcefcfaaJOctetsWrite4
import Derived.Test.YtacmfpkmcefcfaaJOctetsWrite6
import Derived.Test.YtacmfpkmcefcfaaJOctetsWrite7
import Derived.Test.YtacmfpkmcefcfaaJOctetsWrite1
import Derived.Test.YtacmfpkmcefcfaaJOctetsWrite5
import Derived.Test.YtacmfpkmcefcfaaJOctetsWrite9
section
namespace Go.Proofs.Ytacmfpkmcefcfaa.Hand
open Go.RowKit Go.Proofs.YtacmfpkmcefcfaaW.PrintWords Go.Proofs.YtacmfpkmcefcfaaW.PrintLast Go.Proofs.YtacmfpkmcefcfaaW.PrintMore Go.Proofs.Ytacmfpkmcefcfaa.A Go.Proofs.Ytacmfpkmcefcfaa.Maps Go.Proofs.Ytacmfpkmcefcfaa.ExtP
set_option linter.unusedVariables false
set_option linter.unusedSimpArgs false
attribute [local go_sem] max2_int min2_int max_two min_two max_three min_three max_four min_four
abbrev OP := S40
theorem rdO_at (l : List OP) (i : Nat) (h : i < l.length) : rd_T40 l (i : Int) = l[i] := by
  unfold rd_T40
  rw [Int.toNat_natCast, List.getD_eq_getElem?_getD, List.getElem?_eq_getElem h]; rfl
def lightP (x : OP) : Prop := x.f3.size ≤ 300 ∧ x.f4.length ≤ 80
/-- What Light tells. -/
def lightQ (l : List OP) (e : Ending) : Prop := ∃ b, e = .returned (.bool b) ∧ (b = true → l.length ≤ 40 ∧ ∀ x ∈ l, lightP x)
set_option maxRecDepth 100000 in
set_option maxHeartbeats 800000 in
theorem light13 (A : Option Addr) (c : Nat) (l : List OP) (w : World) (hC : Kd.C k40 w A l.length l) (hc : l.length ≤ c) :
    Calls Try.prog 21 #[.slice A l.length c] w fun e w' => lightQ l e ∧ w' = w := by
  have hln : (l.length : Int) ≤ 9223372036854775807 := by have := hC.2.1; omega
  have HC := Aside0.mk hC
  have Hc := Aside0.mk hc
  clear hC hc
  go_enter Try.func21, Try.ntmps21
  go_wp2_with fail
  go_loopg [3] (61 + l.length) (fun kq v wz => ∃ i : Nat, i + kq = 61 + l.length ∧ v = .int .i64 (i : Int) ∧ i ≤ 60 ∧ i ≤ l.length ∧ wz = w ∧ Aside0 (∀ j, j < i → lightP (rd_T40 l (j : Int))))
  case atStart => exact ⟨0, by omega, rfl, by omega, by omega, rfl, ⟨fun j hj => by omega⟩⟩
  case round =>
    obtain ⟨i, hi, rfl, h60, hil, rfl, HG⟩ := hrel
    obtain ⟨kk, rfl⟩ : ∃ z, gk = z + 1 := ⟨gk - 1, by omega⟩
    by_cases hlt : i < l.length
    · have hlt' : (i : Int) < (l.length : Int) := by omega
      by_cases h6 : i < 60
      · have h6' : (i : Int) < 60 := by omega
        obtain ⟨ad, A4, c4, e1, x0, x1, x2, x3, x4, _, _⟩ := at_T40 HC.out (i : Int) (by omega) (by omega)
        subst e1
        rw [Int.toNat_natCast] at x0 x1 x2 x3 x4
        generalize hX : rd_T40 l (i : Int) = X at x0 x1 x2 x3 x4
        have HX := Aside0.mk hX
        clear hX
        by_cases h3 : X.f3.size ≤ 300
        · have t3 : ¬ (300 : Int) < (X.f3.size : Int) := by omega
          by_cases h4 : X.f4.length ≤ 80
          · have t4 : ¬ (80 : Int) < (X.f4.length : Int) := by omega
            have HG2 : Aside0 (∀ j, j < i + 1 → lightP (rd_T40 l (j : Int))) := ⟨fun j hj => by
              by_cases e : j = i
              · rw [e, HX.out]; exact ⟨h3, h4⟩
              · exact HG.out j (by omega)⟩
            clear h3 h4 HG
            go_wp2_with fail
            go_roundg kk
            case measure => omega
            case rel => exact ⟨i + 1, by omega, by go_num, by omega, by omega, rfl, HG2⟩
          · have t4 : (80 : Int) < (X.f4.length : Int) := by omega
            clear h3 h4
            go_wp2_with fail
            go_ret
            exact ⟨⟨false, rfl, fun h => by cases h⟩, rfl⟩
        · have t3 : (300 : Int) < (X.f3.size : Int) := by omega
          clear h3
          go_wp2_with fail
          go_ret
          exact ⟨⟨false, rfl, fun h => by cases h⟩, rfl⟩
      · have h6' : ¬ (i : Int) < 60 := by omega
        have t40 : ¬ (l.length : Int) ≤ 40 := by omega
        go_wp2_with fail
        go_ret
        exact ⟨⟨false, rfl, fun h => by cases h⟩, rfl⟩
    · obtain rfl : i = l.length := by omega
      have hlt' : ¬ (l.length : Int) < (l.length : Int) := by omega
      by_cases h4 : l.length ≤ 40
      · have t40 : (l.length : Int) ≤ 40 := by omega
        have HA : Aside0 (l.length ≤ 40 ∧ ∀ x ∈ l, lightP x) := ⟨h4, fun x hx => by
          obtain ⟨j, hj, rfl⟩ := List.mem_iff_getElem.1 hx
          have := HG.out j hj
          rw [rdO_at l j hj] at this
          exact this⟩
        clear h4 HG
        go_wp2_with fail
        go_ret
        exact ⟨⟨true, rfl, fun _ => HA.out⟩, rfl⟩
      · have t40 : ¬ (l.length : Int) ≤ 40 := by omega
        clear h4
        go_wp2_with fail
        go_ret
        exact ⟨⟨false, rfl, fun h => by cases h⟩, rfl⟩
theorem rnum_l0 : ∀ (d k i : Nat) (v : Int) (acc : List Int), d < k → 0 ≤ v → v ≤ 4294967295 → acc.length = i → i + d ≤ 1000 → emulsionref1_Num.l0 k v ((i + d : Nat) : Int) acc (i : Int) = some (strOfNums (acc ++ leB d v))
  | 0, k, i, v, acc, hk, _, _, _, _ => by
    obtain ⟨k, rfl⟩ : ∃ m, k = m + 1 := ⟨k - 1, by omega⟩
    simp only [emulsionref1_Num.l0]
    rw [if_neg (by omega)]
    simp [leB]
  | d + 1, k, i, v, acc, hk, h0, h1, hl, hd => by
    obtain ⟨k, rfl⟩ : ∃ m, k = m + 1 := ⟨k - 1, by omega⟩
    simp only [emulsionref1_Num.l0]
    rw [if_pos (by omega), if_pos (by omega)]
    have e1 : wrap64 (Int.tdiv v 256) = v / 256 := by rw [Int.tdiv_eq_ediv_of_nonneg h0]; unfold wrap64; omega
    have e2 : Go.bits .and .i64 v 255 % 256 = v % 256 := by rw [Fold.and_255 h0 (by omega)]; omega
    have e3 : wrap64 ((i : Int) + 1) = ((i + 1 : Nat) : Int) := by unfold wrap64; omega
    rw [e1, e2, e3, show i + (d + 1) = (i + 1) + d by omega, rnum_l0 d k (i + 1) (v / 256) (acc ++ [v % 256]) (by omega) (by omega) (by omega) (by rw [List.length_append, hl]; rfl) (by omega)]
    simp [leB, List.append_assoc]
theorem rnum (v : Int) (n : Nat) (h0 : 0 ≤ v) (h1 : v ≤ 4294967295) (hn : n ≤ 1000) (k : Nat) (hk : n < k) : emulsionref1_Num.f k v (n : Int) = some (strOfNums (leB n v)) := by
  unfold emulsionref1_Num.f
  have := rnum_l0 n k 0 v [] hk h0 h1 rfl (by omega)
  rw [Nat.zero_add] at this
  exact this
theorem str_app (a b : List Int) : strOfNums (a ++ b) = strOfNums a ++ strOfNums b := by
  apply ba_ext
  unfold strOfNums
  simp
theorem str_bytes (s : ByteArray) : strOfNums (bytesOf s) = s := bytes_inj (bytes_str _ (bytes_in s))
/-- A number that has so many bytes is written. -/
theorem out_num_yes (base g : Nat) (l : List Int) (e v n : Int) (w : World) (h : OutAt w base g l e) (hb : base ≤ w.heap.size) (hf : Fit v n) (hl : l.length ≤ 1000000) :
    Calls Try.prog 15 #[.pointer (some ⟨g, 0, none⟩), .int .i64 v, .int .i64 n] w fun r w' => r = .returned (.int .i64 0) ∧ OutAt w' base g (l ++ leB n.toNat v) e ∧ Below base w w' ∧ TFx w w' := by
  obtain ⟨h0, ⟨rfl, h1⟩ | ⟨rfl, h1⟩ | ⟨rfl, h1⟩ | ⟨rfl, h1⟩⟩ := hf
  · exact out_num1T base g l e v w h hb h0 h1 hl
  · exact out_num2T base g l e v w h hb h0 h1 hl
  · exact out_num3T base g l e v w h hb h0 h1 hl
  · exact out_num4T base g l e v w h hb h0 h1 hl
end Go.Proofs.Ytacmfpkmcefcfaa.Hand
end
section
namespace Go.Proofs.Ytacmfpkmcefcfaa.WOctetsWrite
open Go.RowKit Go.Proofs.YtacmfpkmcefcfaaW.PrintWords Go.Proofs.YtacmfpkmcefcfaaW.PrintLast Go.Proofs.YtacmfpkmcefcfaaW.PrintMore Go.Proofs.Ytacmfpkmcefcfaa.A Go.Proofs.Ytacmfpkmcefcfaa.Hand Go.Proofs.Ytacmfpkmcefcfaa.Maps Go.Proofs.Ytacmfpkmcefcfaa.ExtP
set_option linter.unusedVariables false
set_option linter.unusedSimpArgs false
attribute [local go_sem] max2_int min2_int max_two min_two max_three min_three max_four min_four
theorem num_nil (v n : Int) (w : World) : Calls Try.prog 15 #[.pointer none, .int .i64 v, .int .i64 n] w fun e w' => e = .returned (.int .i64 1) ∧ w' = w := by
  go_enter Try.func15, Try.ntmps15
  go_wp2_with fail
  go_ret
  exact ⟨rfl, rfl⟩
theorem text_nil (s : ByteArray) (w : World) : Calls Try.prog 23 #[.pointer none, .string s] w fun e w' => e = .returned (.int .i64 1) ∧ w' = w := by
  go_enter Try.func23, Try.ntmps23
  go_wp2_with fail
  go_ret
  exact ⟨rfl, rfl⟩
theorem ext_nil (v : Value) (w : World) : Calls Try.prog 25 #[.pointer none, v] w fun e w' => e = .returned (.int .i64 1) ∧ w' = w := by
  go_enter Try.func25, Try.ntmps25
  go_wp2_with fail
  go_ret
  exact ⟨rfl, rfl⟩
set_option maxRecDepth 100000 in
theorem done_nil (w : World) : Calls Try.prog 16 #[.pointer none] w fun e w' => e = .returned (.tuple #[.string ByteArray.empty, .int .i64 1]) ∧ Below w.heap.size w w' := by
  go_enter Try.func16, Try.ntmps16
  go_wp2_with fail
  go_ret2
  exact ⟨rfl, by first | exact Below.refl _ _ | exact below_drew1 (Below.refl _ _)⟩
/-- What the round leaves: the bytes M that were laid, the error er. -/
def Laid (w : World) (base g : Nat) (L : List Int) (e : Int) (v7 v8 v9 : Value) : Prop :=
  ∃ (M : List Int) (er : Int), v7 = .int .i64 er ∧ v8 = .string (strOfNums M) ∧ v9 = .int .i64 er ∧ OutAt w base g (L ++ M) (if e = 0 then er else e) ∧ M.length ≤ 400 ∧ (er = 0 ∨ er = 1)
theorem laid_ok {w : World} {base g : Nat} {X : List Int} {e : Int} (h : OutAt w base g X e) : OutAt w base g X (if e = 0 then 0 else e) := by
  have : (if e = 0 then 0 else e) = e := by
    split
    · rename_i h0; exact h0.symm
    · rfl
  rw [this]
  exact h
theorem lent_C {w : World} {B c' : Nat} {A' : Option Addr} {l : List EX} {mk : EX} (h : Kd.R k96 96 w B (fun _ => True) (.slice A' (l.length + 1) c') (l ++ [mk])) : Kd.C k96 w A' l.length l := by
  obtain ⟨A2, c2, he, _, hC⟩ := Kd.R_reads h
  injection he with h1 _ _
  subst h1
  have := Kd.C_take (m := l.length) hC (by simp)
  rw [List.take_left'] at this
  · exact this
  · rfl
theorem nums_lay (l : List EX) (hl : l.length ≤ 64) (hal : ∀ x ∈ l, alone x) : ∀ (d i k : Nat) (M : List Int), i + d = l.length → 10 + d < k → M.length ≤ 1000 + 3 * i → emulsionref1_LayExtents.l0 k l (strOfNums M) (i : Int) = some (strOfNums (M ++ layL (l.drop i)))
  | 0, i, k, M, hd, hk, hM => by
    obtain ⟨k, rfl⟩ : ∃ m, k = m + 1 := ⟨k - 1, by omega⟩
    simp only [emulsionref1_LayExtents.l0]
    rw [if_neg (by omega), List.drop_of_length_le (by omega)]
    simp [layL]
  | d + 1, i, k, M, hd, hk, hM => by
    obtain ⟨k, rfl⟩ : ∃ m, k = m + 1 := ⟨k - 1, by omega⟩
    have hi : i < l.length := by omega
    simp only [emulsionref1_LayExtents.l0]
    have hdr : l.drop i = rd_T96 l (i : Int) :: l.drop (i + 1) := by rw [rdT_at l i hi]; exact List.drop_eq_getElem_cons hi
    rw [if_pos (by omega), if_pos (by omega), hdr]
    have hX := hal _ (rd_mem l i hi)
    generalize rd_T96 l (i : Int) = X at *
    obtain ⟨h1, h2, h3, h4, h5⟩ := hX
    have n0 := rnum X.f0 1 (by omega) (by omega) (by omega) k (by omega)
    have n1 := rnum X.f1 1 (by omega) (by omega) (by omega) k (by omega)
    have n2 := rnum X.f2 1 (by omega) (by omega) (by omega) k (by omega)
    rw [show ((1 : Nat) : Int) = 1 from rfl] at n0 n1 n2
    have hw : wrap64 ((i : Int) + 1) = ((i + 1 : Nat) : Int) := by unfold wrap64; omega
    rw [n0, Option.bind_some, if_pos (by rw [strOfNums_size, strOfNums_size, leB_length]; omega), n1, Option.bind_some, ← str_app, if_pos (by rw [strOfNums_size, strOfNums_size, List.length_append, leB_length, leB_length]; omega), n2, Option.bind_some, ← str_app, if_pos (by rw [strOfNums_size, strOfNums_size, List.length_append, List.length_append, leB_length, leB_length, leB_length]; omega), ← str_app, hw, nums_lay l hl hal d (i + 1) k _ (by omega) (by omega) (by rw [List.length_append, List.length_append, List.length_append, leB_length, leB_length, leB_length]; omega)]
    congr 2
    unfold layL
    rw [List.flatMap_cons]
    unfold layX
    simp only [List.append_assoc]
theorem lay_eq (l : List EX) (hl : l.length ≤ 64) (hal : ∀ x ∈ l, alone x) : emulsionref1_LayExtents.f (11 + l.length) l = some (strOfNums (leB 1 (l.length : Int) ++ layL l)) := by
  unfold emulsionref1_LayExtents.f
  have h := rnum (l.length : Int) 1 (by omega) (by omega) (by omega) (11 + l.length) (by omega)
  rw [show ((1 : Nat) : Int) = 1 from rfl] at h
  rw [h, Option.bind_some]
  have := nums_lay l hl hal l.length 0 (11 + l.length) (leB 1 (l.length : Int)) (by omega) (by omega) (by rw [leB_length]; omega)
  rw [List.drop_zero] at this
  exact this
set_option maxRecDepth 100000 in
set_option maxHeartbeats 4000000 in
theorem main (A : Option Addr) (c : Nat) (l : List OP) (w : World) (hC : Kd.C k40 w A l.length l) (hc : l.length ≤ c) :
    Calls Try.prog 4 #[.slice A l.length c] w fun e w' => e = .returned (.bool true) ∧ Below w.heap.size w w' := by
  have hln : (l.length : Int) ≤ 9223372036854775807 := by have := hC.2.1; omega
  have HC := Aside0.mk hC
  have Hc := Aside0.mk hc
  have HB := Aside0.mk (Below.refl w.heap.size w)
  clear hC hc
  go_enter Try.func4, Try.ntmps4
  go_wp2_with fail
  refine (light13 A c l _ HC.out Hc.out).mono ?_
  rintro e w1 ⟨⟨b, rfl, hb⟩, hw⟩
  subst w1
  have HLI := Aside0.mk hb
  clear hb
  cases b
  · go_wp2_with fail
    refine (alive13 _).mono ?_
    rintro e w2 ⟨rfl, hB⟩
    go_wp2_with fail
    go_ret
    exact ⟨rfl, hB⟩
  obtain ⟨h40, hli⟩ := HLI.out rfl
  have H40 := Aside0.mk h40
  have HLI2 := Aside0.mk hli
  clear HLI h40 hli
  go_wp2_with fail
  refine (alive13 _).mono ?_
  rintro e w2 ⟨rfl, hB⟩
  replace HB := Aside0.mk hB
  clear hB
  go_wp2_with fail
  have HO := Aside0.mk (OutAt.new w2 w.heap.size HB.out.size)
  refine code_abs (fun Z => Below w.heap.size w Z ∧ OutAt Z w.heap.size w2.heap.size [] 0) ⟨below_alloc HB.out _, HO.out⟩ ?_
  rintro w3 ⟨q1, q2⟩
  replace HB := Aside0.mk q1
  replace HO := Aside0.mk q2
  clear q1 q2
  generalize w2.heap.size = g at *
  go_loopg [4, 5, 6] l.length (fun kq v4 v5 v6 wz => ∃ (i : Nat) (L : List Int) (e : Int), i + kq = l.length ∧ v6 = .int .i64 (i : Int) ∧ v4 = .string (strOfNums L) ∧ v5 = .int .i64 e ∧ Aside0 (L.length ≤ 400 * i) ∧ Aside0 (e = 0 ∨ e = 1) ∧ Aside0 (OutAt wz w.heap.size g L e) ∧ Aside0 (Below w.heap.size w wz))
  case atStart => exact ⟨0, [], 0, by omega, rfl, rfl, rfl, ⟨by simp⟩, ⟨.inl rfl⟩, HO, HB⟩
  case round =>
    clear HO HB
    obtain ⟨i, L, e, hi, rfl, rfl, rfl, HL, HE, HO, HB⟩ := hrel
    by_cases hlt : i < l.length
    · obtain ⟨kk, rfl⟩ : ∃ z, gk = z + 1 := ⟨gk - 1, by omega⟩
      have hlt' : (i : Int) < (l.length : Int) := by omega
      obtain ⟨ad, A4, c4, e1, x0, x1, x2, x3, x4, hc4, hC4⟩ := at_T40 HC.out (i : Int) (by omega) (by omega)
      subst e1
      rw [Int.toNat_natCast] at x0 x1 x2 x3 x4
      have hLX := HLI2.out (rd_T40 l (i : Int)) (by rw [rdO_at l i hlt]; exact List.getElem_mem hlt)
      generalize rd_T40 l (i : Int) = X at x0 x1 x2 x3 x4 hc4 hC4 hLX
      have HLX := Aside0.mk hLX
      have HC4 := Aside0.mk hC4
      have Hc4 := Aside0.mk hc4
      have HX0 := Aside0.mk (fun (W : World) (hb : Below w.heap.size w W) => keepP hb x0)
      have HX1 := Aside0.mk (fun (W : World) (hb : Below w.heap.size w W) => keepP hb x1)
      have HX2 := Aside0.mk (fun (W : World) (hb : Below w.heap.size w W) => keepP hb x2)
      have HX3 := Aside0.mk (fun (W : World) (hb : Below w.heap.size w W) => keepP hb x3)
      have HX4 := Aside0.mk (fun (W : World) (hb : Below w.heap.size w W) => keepP hb x4)
      have HLn := Aside0.mk (show L.length ≤ 16000 by have := HL.out; have := H40.out; omega)
      clear x0 x1 x2 x3 x4 hc4 hC4 hLX
      have x0 := HX0.out _ HB.out
      go_upto_block 2 with fail
      clear x0
      go_cut [7, 8, 9] (fun v7 v8 v9 wc => Aside0 (Laid wc w.heap.size g L e v7 v8 v9) ∧ Aside0 (Below w.heap.size w wc))
      case first =>
        by_cases hk1 : X.f0 = 1
        · by_cases hf : Fit X.f1 X.f2
          · have HF := Aside0.mk hf
            obtain ⟨M, hM⟩ : ∃ M, M = leB X.f2.toNat X.f1 := ⟨_, rfl⟩
            have HN : Aside0 (emulsionref1_Num.f 2000 X.f1 X.f2 = some (strOfNums M)) := ⟨by
              unfold Fit at hf
              have := rnum X.f1 X.f2.toNat hf.1 (by omega) (by omega) 2000 (by omega)
              rw [hM]
              rwa [Int.toNat_of_nonneg (by omega)] at this⟩
            have HMl : Aside0 (M.length ≤ 400) := ⟨by
              unfold Fit at hf
              rw [hM, leB_length]; omega⟩
            have HMe := Aside0.mk hM
            clear hf hM
            go_wp2_with fail
            refine start_ (n := 13) (S := fun w' => Below w.heap.size w w' ∧ OutAt w' w.heap.size g L e ∧ w'.cell? ⟨(ad.add (i * 5)).block, (ad.add (i * 5)).off + 1, none⟩ = some (.int .i64 X.f1) ∧ w'.cell? ⟨(ad.add (i * 5)).block, (ad.add (i * 5)).off + 2, none⟩ = some (.int .i64 X.f2)) (ds := [11]) #[false, false, false, false, false, false, false, false, false, false, false, false, false] (by kernel_rfl) rfl rfl ⟨below_drew1 HB.out, HO.out.keep (below_drew1 (Below.refl _ _)), (HX1.out _ (below_drew1 HB.out)), (HX2.out _ (below_drew1 HB.out))⟩ (fun hHeld => ?_)
            refine pure_ (i := 0) (N := some 70) (v := ?_) (a' := ?_) #[true, false, false, false, false, false, false, false, false, false, false, false, false] rfl rfl (by kernel_rfl) (fun _ _ _ h => h) (Or.inl ⟨by rfl, ?_⟩) ?_ ?_
            rotate_left
            · intro w'
              go_simp
              with_reducible rfl
            rotate_left
            · simp only [Act.put, List.setIfInBounds_toArray, List.set_cons_zero, List.set_cons_succ, i64_w, i32_w]
              rfl
            refine pure_ (i := 1) (N := some 71) (v := ?_) (a' := ?_) #[true, true, false, false, false, false, false, false, false, false, false, false, false] rfl rfl (by kernel_rfl) (fun _ _ _ h => h) (Or.inl ⟨by rfl, ?_⟩) ?_ ?_
            rotate_left
            · intro w'
              go_simp
              with_reducible rfl
            rotate_left
            · simp only [Act.put, List.setIfInBounds_toArray, List.set_cons_zero, List.set_cons_succ, i64_w, i32_w]
              rfl
            refine pure_ (i := 2) (N := some 72) (v := ?_) (a' := ?_) #[true, true, true, false, false, false, false, false, false, false, false, false, false] rfl rfl (by kernel_rfl) (fun _ _ _ h => h) (Or.inl ⟨by rfl, ?_⟩) ?_ ?_
            rotate_left
            · intro w'
              go_simp
              with_reducible rfl
            rotate_left
            · simp only [Act.put, List.setIfInBounds_toArray, List.set_cons_zero, List.set_cons_succ, i64_w, i32_w]
              rfl
            refine pure_ (i := 3) (N := some 73) (v := ?_) (a' := ?_) #[true, true, true, true, false, false, false, false, false, false, false, false, false] rfl rfl (by kernel_rfl) (fun _ _ _ h => h) (Or.inl ⟨by rfl, ?_⟩) ?_ ?_
            rotate_left
            · intro w'
              go_simp
              with_reducible rfl
            rotate_left
            · simp only [Act.put, List.setIfInBounds_toArray, List.set_cons_zero, List.set_cons_succ, i64_w, i32_w]
              rfl
            refine pure_ (i := 4) (N := some 74) (v := ?_) (a' := ?_) #[true, true, true, true, true, false, false, false, false, false, false, false, false] rfl rfl (by kernel_rfl) (fun _ _ _ h => h) (Or.inl ⟨by rfl, ?_⟩) ?_ ?_
            rotate_left
            · intro w'
              go_simp
              with_reducible rfl
            rotate_left
            · simp only [Act.put, List.setIfInBounds_toArray, List.set_cons_zero, List.set_cons_succ, i64_w, i32_w]
              rfl
            refine pure_ (i := 6) (N := some 76) (v := ?_) (a' := ?_) #[true, true, true, true, true, false, true, false, false, false, false, false, false] rfl rfl (by kernel_rfl) (fun _ _ _ h => h) (Or.inl ⟨by rfl, ?_⟩) ?_ ?_
            rotate_left
            · intro w'
              go_simp
              with_reducible rfl
            rotate_left
            · simp only [Act.put, List.setIfInBounds_toArray, List.set_cons_zero, List.set_cons_succ, i64_w, i32_w]
              rfl
            refine pure_ (i := 7) (N := some 77) (v := ?_) (a' := ?_) #[true, true, true, true, true, false, true, true, false, false, false, false, false] rfl rfl (by kernel_rfl) (fun _ _ _ h => h) (Or.inl ⟨by rfl, ?_⟩) ?_ ?_
            rotate_left
            · intro w'
              go_simp
              with_reducible rfl
            rotate_left
            · simp only [Act.put, List.setIfInBounds_toArray, List.set_cons_zero, List.set_cons_succ, i64_w, i32_w]
              rfl
            refine pure_ (i := 8) (N := some 78) (v := ?_) (a' := ?_) #[true, true, true, true, true, false, true, true, true, false, false, false, false] rfl rfl (by kernel_rfl) (fun _ _ _ h => h) (Or.inl ⟨by rfl, ?_⟩) ?_ ?_
            rotate_left
            · intro w'
              go_simp
              with_reducible rfl
            rotate_left
            · simp only [Act.put, List.setIfInBounds_toArray, List.set_cons_zero, List.set_cons_succ, i64_w, i32_w]
              rfl
            refine pure_ (i := 9) (N := some 79) (v := ?_) (a' := ?_) #[true, true, true, true, true, false, true, true, true, true, false, false, false] rfl rfl (by kernel_rfl) (fun _ _ _ h => h) (Or.inl ⟨by rfl, ?_⟩) ?_ ?_
            rotate_left
            · intro w'
              go_simp
              with_reducible rfl
            rotate_left
            · simp only [Act.put, List.setIfInBounds_toArray, List.set_cons_zero, List.set_cons_succ, i64_w, i32_w]
              rfl
            refine take_ (i := 5) (N := some 75) (v := ?_) (a' := ?_) #[true, true, true, true, true, true, true, true, true, true, false, false, false] rfl rfl (by kernel_rfl) (fun _ _ _ h => h) (Or.inl ⟨by rfl, ?_⟩) hHeld ?_ ?_
            rotate_left
            · rintro w' ⟨s0, s1, s2, s3⟩
              go_simp
              with_reducible rfl
            rotate_left
            · simp only [Act.put, List.setIfInBounds_toArray, List.set_cons_zero, List.set_cons_succ, i64_w, i32_w]
              rfl
            refine take_ (i := 10) (N := some 80) (v := ?_) (a' := ?_) #[true, true, true, true, true, true, true, true, true, true, true, false, false] rfl rfl (by kernel_rfl) (fun _ _ _ h => h) (Or.inl ⟨by rfl, ?_⟩) hHeld ?_ ?_
            rotate_left
            · rintro w' ⟨s0, s1, s2, s3⟩
              go_simp
              with_reducible rfl
            rotate_left
            · simp only [Act.put, List.setIfInBounds_toArray, List.set_cons_zero, List.set_cons_succ, i64_w, i32_w]
              rfl
            refine last_ (i := 11) (N := some 81) #[true, true, true, true, true, true, true, true, true, true, true, true, false] rfl rfl (by kernel_rfl) (by decide) (fun K hK => ?_)
            refine goes_ Try.func15 (by kernel_rfl) rfl #[.pointer (some ⟨g, 0, none⟩), .int .i64 X.f1, .int .i64 X.f2] (by rfl) rfl rfl (by simp only [List.map_toArray, List.map_cons, List.map_nil]; rfl) ?_
            with_reducible refine (out_num_yes w.heap.size g L e X.f1 X.f2 _ hHeld.2.1 hHeld.1.size HF.out (by have := HLn.out; omega)).mono ?_
            rintro e w30 ⟨rfl, ho, hb, ht⟩
            refine ⟨_, rfl, ?_⟩
            refine hK.out _ _ ?_
            clear hK K
            refine norm_ (a' := ?_) ?_ ?_
            rotate_left
            · show Act.put _ (some 81) _ = _
              simp only [Act.put, List.setIfInBounds_toArray, List.set_cons_zero, List.set_cons_succ, i64_w, i32_w]
              rfl
            refine pure_ (i := 12) (N := some 7) (v := ?_) (a' := ?_) #[true, true, true, true, true, true, true, true, true, true, true, true, true] rfl rfl (by kernel_rfl) (fun _ _ _ h => h) (Or.inl ⟨by rfl, ?_⟩) ?_ ?_
            rotate_left
            · intro w'
              go_simp
              with_reducible rfl
            rotate_left
            · simp only [Act.put, List.setIfInBounds_toArray, List.set_cons_zero, List.set_cons_succ, i64_w, i32_w]
              rfl
            refine done_ (by kernel_rfl) ?_
            rw [← HMe.out] at ho
            replace HB := Aside0.mk (bel3 hHeld.1 hb)
            replace HO := Aside0.mk ho
            clear hHeld ho hb ht
            go_wp2_with fail
            refine start_ (n := 11) (S := fun w' => Below w.heap.size w w' ∧ OutAt w' w.heap.size g (L ++ M) e ∧ w'.cell? ⟨(ad.add (i * 5)).block, (ad.add (i * 5)).off + 1, none⟩ = some (.int .i64 X.f1) ∧ w'.cell? ⟨(ad.add (i * 5)).block, (ad.add (i * 5)).off + 2, none⟩ = some (.int .i64 X.f2)) (ds := []) #[false, false, false, false, false, false, false, false, false, false, false] (by kernel_rfl) rfl rfl ⟨below_drew1 HB.out, HO.out.keep (below_drew1 (Below.refl _ _)), (HX1.out _ (below_drew1 HB.out)), (HX2.out _ (below_drew1 HB.out))⟩ (fun hHeld => ?_)
            refine pure_ (i := 0) (N := some 82) (v := ?_) (a' := ?_) #[true, false, false, false, false, false, false, false, false, false, false] rfl rfl (by kernel_rfl) (fun _ _ _ h => h) (Or.inl ⟨by rfl, ?_⟩) ?_ ?_
            rotate_left
            · intro w'
              go_simp
              with_reducible rfl
            rotate_left
            · simp only [Act.put, List.setIfInBounds_toArray, List.set_cons_zero, List.set_cons_succ, i64_w, i32_w]
              rfl
            refine pure_ (i := 1) (N := some 83) (v := ?_) (a' := ?_) #[true, true, false, false, false, false, false, false, false, false, false] rfl rfl (by kernel_rfl) (fun _ _ _ h => h) (Or.inl ⟨by rfl, ?_⟩) ?_ ?_
            rotate_left
            · intro w'
              go_simp
              with_reducible rfl
            rotate_left
            · simp only [Act.put, List.setIfInBounds_toArray, List.set_cons_zero, List.set_cons_succ, i64_w, i32_w]
              rfl
            refine pure_ (i := 2) (N := some 84) (v := ?_) (a' := ?_) #[true, true, true, false, false, false, false, false, false, false, false] rfl rfl (by kernel_rfl) (fun _ _ _ h => h) (Or.inl ⟨by rfl, ?_⟩) ?_ ?_
            rotate_left
            · intro w'
              go_simp
              with_reducible rfl
            rotate_left
            · simp only [Act.put, List.setIfInBounds_toArray, List.set_cons_zero, List.set_cons_succ, i64_w, i32_w]
              rfl
            refine pure_ (i := 3) (N := some 85) (v := ?_) (a' := ?_) #[true, true, true, true, false, false, false, false, false, false, false] rfl rfl (by kernel_rfl) (fun _ _ _ h => h) (Or.inl ⟨by rfl, ?_⟩) ?_ ?_
            rotate_left
            · intro w'
              go_simp
              with_reducible rfl
            rotate_left
            · simp only [Act.put, List.setIfInBounds_toArray, List.set_cons_zero, List.set_cons_succ, i64_w, i32_w]
              rfl
            refine pure_ (i := 5) (N := some 87) (v := ?_) (a' := ?_) #[true, true, true, true, false, true, false, false, false, false, false] rfl rfl (by kernel_rfl) (fun _ _ _ h => h) (Or.inl ⟨by rfl, ?_⟩) ?_ ?_
            rotate_left
            · intro w'
              go_simp
              with_reducible rfl
            rotate_left
            · simp only [Act.put, List.setIfInBounds_toArray, List.set_cons_zero, List.set_cons_succ, i64_w, i32_w]
              rfl
            refine pure_ (i := 6) (N := some 88) (v := ?_) (a' := ?_) #[true, true, true, true, false, true, true, false, false, false, false] rfl rfl (by kernel_rfl) (fun _ _ _ h => h) (Or.inl ⟨by rfl, ?_⟩) ?_ ?_
            rotate_left
            · intro w'
              go_simp
              with_reducible rfl
            rotate_left
            · simp only [Act.put, List.setIfInBounds_toArray, List.set_cons_zero, List.set_cons_succ, i64_w, i32_w]
              rfl
            refine pure_ (i := 7) (N := some 89) (v := ?_) (a' := ?_) #[true, true, true, true, false, true, true, true, false, false, false] rfl rfl (by kernel_rfl) (fun _ _ _ h => h) (Or.inl ⟨by rfl, ?_⟩) ?_ ?_
            rotate_left
            · intro w'
              go_simp
              with_reducible rfl
            rotate_left
            · simp only [Act.put, List.setIfInBounds_toArray, List.set_cons_zero, List.set_cons_succ, i64_w, i32_w]
              rfl
            refine pure_ (i := 8) (N := some 90) (v := ?_) (a' := ?_) #[true, true, true, true, false, true, true, true, true, false, false] rfl rfl (by kernel_rfl) (fun _ _ _ h => h) (Or.inl ⟨by rfl, ?_⟩) ?_ ?_
            rotate_left
            · intro w'
              go_simp
              with_reducible rfl
            rotate_left
            · simp only [Act.put, List.setIfInBounds_toArray, List.set_cons_zero, List.set_cons_succ, i64_w, i32_w]
              rfl
            refine take_ (i := 4) (N := some 86) (v := ?_) (a' := ?_) #[true, true, true, true, true, true, true, true, true, false, false] rfl rfl (by kernel_rfl) (fun _ _ _ h => h) (Or.inl ⟨by rfl, ?_⟩) hHeld ?_ ?_
            rotate_left
            · rintro w' ⟨s0, s1, s2, s3⟩
              go_simp
              with_reducible rfl
            rotate_left
            · simp only [Act.put, List.setIfInBounds_toArray, List.set_cons_zero, List.set_cons_succ, i64_w, i32_w]
              rfl
            refine take_ (i := 9) (N := some 91) (v := ?_) (a' := ?_) #[true, true, true, true, true, true, true, true, true, true, false] rfl rfl (by kernel_rfl) (fun _ _ _ h => h) (Or.inl ⟨by rfl, ?_⟩) hHeld ?_ ?_
            rotate_left
            · rintro w' ⟨s0, s1, s2, s3⟩
              go_simp
              with_reducible rfl
            rotate_left
            · simp only [Act.put, List.setIfInBounds_toArray, List.set_cons_zero, List.set_cons_succ, i64_w, i32_w]
              rfl
            refine one_ (i := 10) (N := some 92) #[true, true, true, true, true, true, true, true, true, true, true] rfl rfl (by kernel_rfl) (by decide) (fun K hK => ?_)
            refine goes_ Try.func17 (by kernel_rfl) rfl #[.int .i64 X.f1, .int .i64 X.f2] (by rfl) rfl rfl (by simp only [List.map_toArray, List.map_cons, List.map_nil]; rfl) ?_
            with_reducible refine (emulsionref1_Fits.calls X.f1 X.f2 true _ (fits_ok _ _ HF.out)).mono ?_
            rintro e w31 ⟨rfl, hd⟩
            refine ⟨_, rfl, ?_⟩
            refine hK.out _ _ ⟨below_step hHeld.1 (drawnB hd), hHeld.2.1.keep (drawnB hd), keepP (drawnB hd) hHeld.2.2.1, keepP (drawnB hd) hHeld.2.2.2⟩ (fun hHeld => ?_)
            clear hK K
            refine norm_ (a' := ?_) ?_ ?_
            rotate_left
            · show Act.put _ (some 92) _ = _
              simp only [Act.put, List.setIfInBounds_toArray, List.set_cons_zero, List.set_cons_succ, i64_w, i32_w]
              rfl
            refine done_ (by kernel_rfl) ?_
            replace HB := Aside0.mk hHeld.1
            replace HO := Aside0.mk hHeld.2.1
            clear hHeld
            go_wp2_with fail
            refine start_ (n := 12) (S := fun w' => Below w.heap.size w w' ∧ OutAt w' w.heap.size g (L ++ M) e ∧ w'.cell? ⟨(ad.add (i * 5)).block, (ad.add (i * 5)).off + 1, none⟩ = some (.int .i64 X.f1) ∧ w'.cell? ⟨(ad.add (i * 5)).block, (ad.add (i * 5)).off + 2, none⟩ = some (.int .i64 X.f2)) (ds := []) #[false, false, false, false, false, false, false, false, false, false, false, false] (by kernel_rfl) rfl rfl ⟨below_drew1 HB.out, HO.out.keep (below_drew1 (Below.refl _ _)), (HX1.out _ (below_drew1 HB.out)), (HX2.out _ (below_drew1 HB.out))⟩ (fun hHeld => ?_)
            refine pure_ (i := 0) (N := some 93) (v := ?_) (a' := ?_) #[true, false, false, false, false, false, false, false, false, false, false, false] rfl rfl (by kernel_rfl) (fun _ _ _ h => h) (Or.inl ⟨by rfl, ?_⟩) ?_ ?_
            rotate_left
            · intro w'
              go_simp
              with_reducible rfl
            rotate_left
            · simp only [Act.put, List.setIfInBounds_toArray, List.set_cons_zero, List.set_cons_succ, i64_w, i32_w]
              rfl
            refine pure_ (i := 1) (N := some 94) (v := ?_) (a' := ?_) #[true, true, false, false, false, false, false, false, false, false, false, false] rfl rfl (by kernel_rfl) (fun _ _ _ h => h) (Or.inl ⟨by rfl, ?_⟩) ?_ ?_
            rotate_left
            · intro w'
              go_simp
              with_reducible rfl
            rotate_left
            · simp only [Act.put, List.setIfInBounds_toArray, List.set_cons_zero, List.set_cons_succ, i64_w, i32_w]
              rfl
            refine pure_ (i := 2) (N := some 95) (v := ?_) (a' := ?_) #[true, true, true, false, false, false, false, false, false, false, false, false] rfl rfl (by kernel_rfl) (fun _ _ _ h => h) (Or.inl ⟨by rfl, ?_⟩) ?_ ?_
            rotate_left
            · intro w'
              go_simp
              with_reducible rfl
            rotate_left
            · simp only [Act.put, List.setIfInBounds_toArray, List.set_cons_zero, List.set_cons_succ, i64_w, i32_w]
              rfl
            refine pure_ (i := 3) (N := some 96) (v := ?_) (a' := ?_) #[true, true, true, true, false, false, false, false, false, false, false, false] rfl rfl (by kernel_rfl) (fun _ _ _ h => h) (Or.inl ⟨by rfl, ?_⟩) ?_ ?_
            rotate_left
            · intro w'
              go_simp
              with_reducible rfl
            rotate_left
            · simp only [Act.put, List.setIfInBounds_toArray, List.set_cons_zero, List.set_cons_succ, i64_w, i32_w]
              rfl
            refine pure_ (i := 5) (N := some 98) (v := ?_) (a' := ?_) #[true, true, true, true, false, true, false, false, false, false, false, false] rfl rfl (by kernel_rfl) (fun _ _ _ h => h) (Or.inl ⟨by rfl, ?_⟩) ?_ ?_
            rotate_left
            · intro w'
              go_simp
              with_reducible rfl
            rotate_left
            · simp only [Act.put, List.setIfInBounds_toArray, List.set_cons_zero, List.set_cons_succ, i64_w, i32_w]
              rfl
            refine pure_ (i := 6) (N := some 99) (v := ?_) (a' := ?_) #[true, true, true, true, false, true, true, false, false, false, false, false] rfl rfl (by kernel_rfl) (fun _ _ _ h => h) (Or.inl ⟨by rfl, ?_⟩) ?_ ?_
            rotate_left
            · intro w'
              go_simp
              with_reducible rfl
            rotate_left
            · simp only [Act.put, List.setIfInBounds_toArray, List.set_cons_zero, List.set_cons_succ, i64_w, i32_w]
              rfl
            refine pure_ (i := 7) (N := some 100) (v := ?_) (a' := ?_) #[true, true, true, true, false, true, true, true, false, false, false, false] rfl rfl (by kernel_rfl) (fun _ _ _ h => h) (Or.inl ⟨by rfl, ?_⟩) ?_ ?_
            rotate_left
            · intro w'
              go_simp
              with_reducible rfl
            rotate_left
            · simp only [Act.put, List.setIfInBounds_toArray, List.set_cons_zero, List.set_cons_succ, i64_w, i32_w]
              rfl
            refine pure_ (i := 8) (N := some 101) (v := ?_) (a' := ?_) #[true, true, true, true, false, true, true, true, true, false, false, false] rfl rfl (by kernel_rfl) (fun _ _ _ h => h) (Or.inl ⟨by rfl, ?_⟩) ?_ ?_
            rotate_left
            · intro w'
              go_simp
              with_reducible rfl
            rotate_left
            · simp only [Act.put, List.setIfInBounds_toArray, List.set_cons_zero, List.set_cons_succ, i64_w, i32_w]
              rfl
            refine take_ (i := 4) (N := some 97) (v := ?_) (a' := ?_) #[true, true, true, true, true, true, true, true, true, false, false, false] rfl rfl (by kernel_rfl) (fun _ _ _ h => h) (Or.inl ⟨by rfl, ?_⟩) hHeld ?_ ?_
            rotate_left
            · rintro w' ⟨s0, s1, s2, s3⟩
              go_simp
              with_reducible rfl
            rotate_left
            · simp only [Act.put, List.setIfInBounds_toArray, List.set_cons_zero, List.set_cons_succ, i64_w, i32_w]
              rfl
            refine take_ (i := 9) (N := some 102) (v := ?_) (a' := ?_) #[true, true, true, true, true, true, true, true, true, true, false, false] rfl rfl (by kernel_rfl) (fun _ _ _ h => h) (Or.inl ⟨by rfl, ?_⟩) hHeld ?_ ?_
            rotate_left
            · rintro w' ⟨s0, s1, s2, s3⟩
              go_simp
              with_reducible rfl
            rotate_left
            · simp only [Act.put, List.setIfInBounds_toArray, List.set_cons_zero, List.set_cons_succ, i64_w, i32_w]
              rfl
            refine one_ (i := 10) (N := some 103) #[true, true, true, true, true, true, true, true, true, true, true, false] rfl rfl (by kernel_rfl) (by decide) (fun K hK => ?_)
            refine goes_ Try.func22 (by kernel_rfl) rfl #[.int .i64 X.f1, .int .i64 X.f2] (by rfl) rfl rfl (by simp only [List.map_toArray, List.map_cons, List.map_nil]; rfl) ?_
            with_reducible refine (emulsionref1_Num.calls 2000 X.f1 X.f2 _ _ HN.out).mono ?_
            rintro e w32 ⟨rfl, hb⟩
            refine ⟨_, rfl, ?_⟩
            refine hK.out _ _ ⟨below_step hHeld.1 hb, hHeld.2.1.keep hb, keepP hb hHeld.2.2.1, keepP hb hHeld.2.2.2⟩ (fun hHeld => ?_)
            clear hK K
            refine norm_ (a' := ?_) ?_ ?_
            rotate_left
            · show Act.put _ (some 103) _ = _
              simp only [Act.put, List.setIfInBounds_toArray, List.set_cons_zero, List.set_cons_succ, i64_w, i32_w]
              rfl
            refine pure_ (i := 11) (N := some 8) (v := ?_) (a' := ?_) #[true, true, true, true, true, true, true, true, true, true, true, true] rfl rfl (by kernel_rfl) (fun _ _ _ h => h) (Or.inl ⟨by rfl, ?_⟩) ?_ ?_
            rotate_left
            · intro w'
              go_simp
              with_reducible rfl
            rotate_left
            · simp only [Act.put, List.setIfInBounds_toArray, List.set_cons_zero, List.set_cons_succ, i64_w, i32_w]
              rfl
            refine done_ (by kernel_rfl) ?_
            replace HB := Aside0.mk hHeld.1
            replace HO := Aside0.mk hHeld.2.1
            clear hHeld
            go_wp2_with fail
            go_meet
            case rel => exact ⟨⟨M, 0, rfl, rfl, rfl, laid_ok HO.out, HMl.out, .inl rfl⟩, HB⟩
          · have HF := Aside0.mk hf
            clear hf
            obtain ⟨e2, he2⟩ : ∃ e2, (if e = 0 then 1 else e) = e2 := ⟨_, rfl⟩
            have HE2 := Aside0.mk he2
            clear he2
            go_wp2_with fail
            refine start_ (n := 13) (S := fun w' => Below w.heap.size w w' ∧ OutAt w' w.heap.size g L e ∧ w'.cell? ⟨(ad.add (i * 5)).block, (ad.add (i * 5)).off + 1, none⟩ = some (.int .i64 X.f1) ∧ w'.cell? ⟨(ad.add (i * 5)).block, (ad.add (i * 5)).off + 2, none⟩ = some (.int .i64 X.f2)) (ds := [11]) #[false, false, false, false, false, false, false, false, false, false, false, false, false] (by kernel_rfl) rfl rfl ⟨below_drew1 HB.out, HO.out.keep (below_drew1 (Below.refl _ _)), (HX1.out _ (below_drew1 HB.out)), (HX2.out _ (below_drew1 HB.out))⟩ (fun hHeld => ?_)
            refine pure_ (i := 0) (N := some 70) (v := ?_) (a' := ?_) #[true, false, false, false, false, false, false, false, false, false, false, false, false] rfl rfl (by kernel_rfl) (fun _ _ _ h => h) (Or.inl ⟨by rfl, ?_⟩) ?_ ?_
            rotate_left
            · intro w'
              go_simp
              with_reducible rfl
            rotate_left
            · simp only [Act.put, List.setIfInBounds_toArray, List.set_cons_zero, List.set_cons_succ, i64_w, i32_w]
              rfl
            refine pure_ (i := 1) (N := some 71) (v := ?_) (a' := ?_) #[true, true, false, false, false, false, false, false, false, false, false, false, false] rfl rfl (by kernel_rfl) (fun _ _ _ h => h) (Or.inl ⟨by rfl, ?_⟩) ?_ ?_
            rotate_left
            · intro w'
              go_simp
              with_reducible rfl
            rotate_left
            · simp only [Act.put, List.setIfInBounds_toArray, List.set_cons_zero, List.set_cons_succ, i64_w, i32_w]
              rfl
            refine pure_ (i := 2) (N := some 72) (v := ?_) (a' := ?_) #[true, true, true, false, false, false, false, false, false, false, false, false, false] rfl rfl (by kernel_rfl) (fun _ _ _ h => h) (Or.inl ⟨by rfl, ?_⟩) ?_ ?_
            rotate_left
            · intro w'
              go_simp
              with_reducible rfl
            rotate_left
            · simp only [Act.put, List.setIfInBounds_toArray, List.set_cons_zero, List.set_cons_succ, i64_w, i32_w]
              rfl
            refine pure_ (i := 3) (N := some 73) (v := ?_) (a' := ?_) #[true, true, true, true, false, false, false, false, false, false, false, false, false] rfl rfl (by kernel_rfl) (fun _ _ _ h => h) (Or.inl ⟨by rfl, ?_⟩) ?_ ?_
            rotate_left
            · intro w'
              go_simp
              with_reducible rfl
            rotate_left
            · simp only [Act.put, List.setIfInBounds_toArray, List.set_cons_zero, List.set_cons_succ, i64_w, i32_w]
              rfl
            refine pure_ (i := 4) (N := some 74) (v := ?_) (a' := ?_) #[true, true, true, true, true, false, false, false, false, false, false, false, false] rfl rfl (by kernel_rfl) (fun _ _ _ h => h) (Or.inl ⟨by rfl, ?_⟩) ?_ ?_
            rotate_left
            · intro w'
              go_simp
              with_reducible rfl
            rotate_left
            · simp only [Act.put, List.setIfInBounds_toArray, List.set_cons_zero, List.set_cons_succ, i64_w, i32_w]
              rfl
            refine pure_ (i := 6) (N := some 76) (v := ?_) (a' := ?_) #[true, true, true, true, true, false, true, false, false, false, false, false, false] rfl rfl (by kernel_rfl) (fun _ _ _ h => h) (Or.inl ⟨by rfl, ?_⟩) ?_ ?_
            rotate_left
            · intro w'
              go_simp
              with_reducible rfl
            rotate_left
            · simp only [Act.put, List.setIfInBounds_toArray, List.set_cons_zero, List.set_cons_succ, i64_w, i32_w]
              rfl
            refine pure_ (i := 7) (N := some 77) (v := ?_) (a' := ?_) #[true, true, true, true, true, false, true, true, false, false, false, false, false] rfl rfl (by kernel_rfl) (fun _ _ _ h => h) (Or.inl ⟨by rfl, ?_⟩) ?_ ?_
            rotate_left
            · intro w'
              go_simp
              with_reducible rfl
            rotate_left
            · simp only [Act.put, List.setIfInBounds_toArray, List.set_cons_zero, List.set_cons_succ, i64_w, i32_w]
              rfl
            refine pure_ (i := 8) (N := some 78) (v := ?_) (a' := ?_) #[true, true, true, true, true, false, true, true, true, false, false, false, false] rfl rfl (by kernel_rfl) (fun _ _ _ h => h) (Or.inl ⟨by rfl, ?_⟩) ?_ ?_
            rotate_left
            · intro w'
              go_simp
              with_reducible rfl
            rotate_left
            · simp only [Act.put, List.setIfInBounds_toArray, List.set_cons_zero, List.set_cons_succ, i64_w, i32_w]
              rfl
            refine pure_ (i := 9) (N := some 79) (v := ?_) (a' := ?_) #[true, true, true, true, true, false, true, true, true, true, false, false, false] rfl rfl (by kernel_rfl) (fun _ _ _ h => h) (Or.inl ⟨by rfl, ?_⟩) ?_ ?_
            rotate_left
            · intro w'
              go_simp
              with_reducible rfl
            rotate_left
            · simp only [Act.put, List.setIfInBounds_toArray, List.set_cons_zero, List.set_cons_succ, i64_w, i32_w]
              rfl
            refine take_ (i := 5) (N := some 75) (v := ?_) (a' := ?_) #[true, true, true, true, true, true, true, true, true, true, false, false, false] rfl rfl (by kernel_rfl) (fun _ _ _ h => h) (Or.inl ⟨by rfl, ?_⟩) hHeld ?_ ?_
            rotate_left
            · rintro w' ⟨s0, s1, s2, s3⟩
              go_simp
              with_reducible rfl
            rotate_left
            · simp only [Act.put, List.setIfInBounds_toArray, List.set_cons_zero, List.set_cons_succ, i64_w, i32_w]
              rfl
            refine take_ (i := 10) (N := some 80) (v := ?_) (a' := ?_) #[true, true, true, true, true, true, true, true, true, true, true, false, false] rfl rfl (by kernel_rfl) (fun _ _ _ h => h) (Or.inl ⟨by rfl, ?_⟩) hHeld ?_ ?_
            rotate_left
            · rintro w' ⟨s0, s1, s2, s3⟩
              go_simp
              with_reducible rfl
            rotate_left
            · simp only [Act.put, List.setIfInBounds_toArray, List.set_cons_zero, List.set_cons_succ, i64_w, i32_w]
              rfl
            refine last_ (i := 11) (N := some 81) #[true, true, true, true, true, true, true, true, true, true, true, true, false] rfl rfl (by kernel_rfl) (by decide) (fun K hK => ?_)
            refine goes_ Try.func15 (by kernel_rfl) rfl #[.pointer (some ⟨g, 0, none⟩), .int .i64 X.f1, .int .i64 X.f2] (by rfl) rfl rfl (by simp only [List.map_toArray, List.map_cons, List.map_nil]; rfl) ?_
            with_reducible refine (out_num_noT w.heap.size g L e X.f1 X.f2 _ hHeld.2.1 hHeld.1.size HF.out).mono ?_
            rintro e w30 ⟨rfl, ho, hb, ht⟩
            refine ⟨_, rfl, ?_⟩
            refine hK.out _ _ ?_
            clear hK K
            refine norm_ (a' := ?_) ?_ ?_
            rotate_left
            · show Act.put _ (some 81) _ = _
              simp only [Act.put, List.setIfInBounds_toArray, List.set_cons_zero, List.set_cons_succ, i64_w, i32_w]
              rfl
            refine pure_ (i := 12) (N := some 7) (v := ?_) (a' := ?_) #[true, true, true, true, true, true, true, true, true, true, true, true, true] rfl rfl (by kernel_rfl) (fun _ _ _ h => h) (Or.inl ⟨by rfl, ?_⟩) ?_ ?_
            rotate_left
            · intro w'
              go_simp
              with_reducible rfl
            rotate_left
            · simp only [Act.put, List.setIfInBounds_toArray, List.set_cons_zero, List.set_cons_succ, i64_w, i32_w]
              rfl
            refine done_ (by kernel_rfl) ?_
            rw [HE2.out] at ho
            replace HB := Aside0.mk (bel3 hHeld.1 hb)
            replace HO := Aside0.mk ho
            clear hHeld ho hb ht
            go_wp2_with fail
            refine start_ (n := 11) (S := fun w' => Below w.heap.size w w' ∧ OutAt w' w.heap.size g (L) e2 ∧ w'.cell? ⟨(ad.add (i * 5)).block, (ad.add (i * 5)).off + 1, none⟩ = some (.int .i64 X.f1) ∧ w'.cell? ⟨(ad.add (i * 5)).block, (ad.add (i * 5)).off + 2, none⟩ = some (.int .i64 X.f2)) (ds := []) #[false, false, false, false, false, false, false, false, false, false, false] (by kernel_rfl) rfl rfl ⟨below_drew1 HB.out, HO.out.keep (below_drew1 (Below.refl _ _)), (HX1.out _ (below_drew1 HB.out)), (HX2.out _ (below_drew1 HB.out))⟩ (fun hHeld => ?_)
            refine pure_ (i := 0) (N := some 82) (v := ?_) (a' := ?_) #[true, false, false, false, false, false, false, false, false, false, false] rfl rfl (by kernel_rfl) (fun _ _ _ h => h) (Or.inl ⟨by rfl, ?_⟩) ?_ ?_
            rotate_left
            · intro w'
              go_simp
              with_reducible rfl
            rotate_left
            · simp only [Act.put, List.setIfInBounds_toArray, List.set_cons_zero, List.set_cons_succ, i64_w, i32_w]
              rfl
            refine pure_ (i := 1) (N := some 83) (v := ?_) (a' := ?_) #[true, true, false, false, false, false, false, false, false, false, false] rfl rfl (by kernel_rfl) (fun _ _ _ h => h) (Or.inl ⟨by rfl, ?_⟩) ?_ ?_
            rotate_left
            · intro w'
              go_simp
              with_reducible rfl
            rotate_left
            · simp only [Act.put, List.setIfInBounds_toArray, List.set_cons_zero, List.set_cons_succ, i64_w, i32_w]
              rfl
            refine pure_ (i := 2) (N := some 84) (v := ?_) (a' := ?_) #[true, true, true, false, false, false, false, false, false, false, false] rfl rfl (by kernel_rfl) (fun _ _ _ h => h) (Or.inl ⟨by rfl, ?_⟩) ?_ ?_
            rotate_left
            · intro w'
              go_simp
              with_reducible rfl
            rotate_left
            · simp only [Act.put, List.setIfInBounds_toArray, List.set_cons_zero, List.set_cons_succ, i64_w, i32_w]
              rfl
            refine pure_ (i := 3) (N := some 85) (v := ?_) (a' := ?_) #[true, true, true, true, false, false, false, false, false, false, false] rfl rfl (by kernel_rfl) (fun _ _ _ h => h) (Or.inl ⟨by rfl, ?_⟩) ?_ ?_
            rotate_left
            · intro w'
              go_simp
              with_reducible rfl
            rotate_left
            · simp only [Act.put, List.setIfInBounds_toArray, List.set_cons_zero, List.set_cons_succ, i64_w, i32_w]
              rfl
            refine pure_ (i := 5) (N := some 87) (v := ?_) (a' := ?_) #[true, true, true, true, false, true, false, false, false, false, false] rfl rfl (by kernel_rfl) (fun _ _ _ h => h) (Or.inl ⟨by rfl, ?_⟩) ?_ ?_
            rotate_left
            · intro w'
              go_simp
              with_reducible rfl
            rotate_left
            · simp only [Act.put, List.setIfInBounds_toArray, List.set_cons_zero, List.set_cons_succ, i64_w, i32_w]
              rfl
            refine pure_ (i := 6) (N := some 88) (v := ?_) (a' := ?_) #[true, true, true, true, false, true, true, false, false, false, false] rfl rfl (by kernel_rfl) (fun _ _ _ h => h) (Or.inl ⟨by rfl, ?_⟩) ?_ ?_
            rotate_left
            · intro w'
              go_simp
              with_reducible rfl
            rotate_left
            · simp only [Act.put, List.setIfInBounds_toArray, List.set_cons_zero, List.set_cons_succ, i64_w, i32_w]
              rfl
            refine pure_ (i := 7) (N := some 89) (v := ?_) (a' := ?_) #[true, true, true, true, false, true, true, true, false, false, false] rfl rfl (by kernel_rfl) (fun _ _ _ h => h) (Or.inl ⟨by rfl, ?_⟩) ?_ ?_
            rotate_left
            · intro w'
              go_simp
              with_reducible rfl
            rotate_left
            · simp only [Act.put, List.setIfInBounds_toArray, List.set_cons_zero, List.set_cons_succ, i64_w, i32_w]
              rfl
            refine pure_ (i := 8) (N := some 90) (v := ?_) (a' := ?_) #[true, true, true, true, false, true, true, true, true, false, false] rfl rfl (by kernel_rfl) (fun _ _ _ h => h) (Or.inl ⟨by rfl, ?_⟩) ?_ ?_
            rotate_left
            · intro w'
              go_simp
              with_reducible rfl
            rotate_left
            · simp only [Act.put, List.setIfInBounds_toArray, List.set_cons_zero, List.set_cons_succ, i64_w, i32_w]
              rfl
            refine take_ (i := 4) (N := some 86) (v := ?_) (a' := ?_) #[true, true, true, true, true, true, true, true, true, false, false] rfl rfl (by kernel_rfl) (fun _ _ _ h => h) (Or.inl ⟨by rfl, ?_⟩) hHeld ?_ ?_
            rotate_left
            · rintro w' ⟨s0, s1, s2, s3⟩
              go_simp
              with_reducible rfl
            rotate_left
            · simp only [Act.put, List.setIfInBounds_toArray, List.set_cons_zero, List.set_cons_succ, i64_w, i32_w]
              rfl
            refine take_ (i := 9) (N := some 91) (v := ?_) (a' := ?_) #[true, true, true, true, true, true, true, true, true, true, false] rfl rfl (by kernel_rfl) (fun _ _ _ h => h) (Or.inl ⟨by rfl, ?_⟩) hHeld ?_ ?_
            rotate_left
            · rintro w' ⟨s0, s1, s2, s3⟩
              go_simp
              with_reducible rfl
            rotate_left
            · simp only [Act.put, List.setIfInBounds_toArray, List.set_cons_zero, List.set_cons_succ, i64_w, i32_w]
              rfl
            refine one_ (i := 10) (N := some 92) #[true, true, true, true, true, true, true, true, true, true, true] rfl rfl (by kernel_rfl) (by decide) (fun K hK => ?_)
            refine goes_ Try.func17 (by kernel_rfl) rfl #[.int .i64 X.f1, .int .i64 X.f2] (by rfl) rfl rfl (by simp only [List.map_toArray, List.map_cons, List.map_nil]; rfl) ?_
            with_reducible refine (emulsionref1_Fits.calls X.f1 X.f2 false _ (fits_no _ _ HF.out)).mono ?_
            rintro e w31 ⟨rfl, hd⟩
            refine ⟨_, rfl, ?_⟩
            refine hK.out _ _ ⟨below_step hHeld.1 (drawnB hd), hHeld.2.1.keep (drawnB hd), keepP (drawnB hd) hHeld.2.2.1, keepP (drawnB hd) hHeld.2.2.2⟩ (fun hHeld => ?_)
            clear hK K
            refine norm_ (a' := ?_) ?_ ?_
            rotate_left
            · show Act.put _ (some 92) _ = _
              simp only [Act.put, List.setIfInBounds_toArray, List.set_cons_zero, List.set_cons_succ, i64_w, i32_w]
              rfl
            refine done_ (by kernel_rfl) ?_
            replace HB := Aside0.mk hHeld.1
            replace HO := Aside0.mk hHeld.2.1
            clear hHeld
            go_wp2_with fail
            go_meet
            case rel => exact ⟨⟨[], 1, rfl, rfl, rfl, by rw [List.append_nil, HE2.out]; exact HO.out, by simp, .inr rfl⟩, HB⟩
        · by_cases hk2 : X.f0 = 2
          · have t2 : (X.f0 = 2) = True := eq_true hk2
            have t2' : (X.f0 == 2) = true := by rw [hk2]; rfl
            clear hk2
            have x3 := HX3.out _ HB.out
            by_cases hs : X.f3.size ≤ 255
            · have Hs := Aside0.mk hs
              have t3 : (X.f3.size : Int) ≤ 255 := by omega
              have t3' : ¬ (255 : Int) < (X.f3.size : Int) := by omega
              obtain ⟨M1, hM1⟩ : ∃ M1, M1 = leB 1 (X.f3.size : Int) := ⟨_, rfl⟩
              have HN : Aside0 (emulsionref1_Num.f 2000 (X.f3.size : Int) 1 = some (strOfNums M1)) := ⟨by
                rw [hM1]
                exact rnum (X.f3.size : Int) 1 (by omega) (by omega) (by omega) 2000 (by omega)⟩
              have HMl : Aside0 ((M1 ++ bytesOf X.f3).length ≤ 400) := ⟨by rw [hM1, List.length_append, leB_length, bytes_size]; omega⟩
              have hsz : (strOfNums M1).size + X.f3.size ≤ 9223372036854775807 := by rw [strOfNums_size, hM1, leB_length]; omega
              have hsz2 : (9223372036854775807 < (strOfNums M1).size + X.f3.size) = False := eq_false (by omega)
              have HMe := Aside0.mk hM1
              clear hs hM1
              go_wp2_with fail
              refine (out_textT w.heap.size g L e X.f3 _ HO.out HB.out.size Hs.out (by have := HLn.out; omega)).mono ?_
              rintro e9 w30 ⟨rfl, ho, hb, ht⟩
              rw [← HMe.out, List.append_assoc] at ho
              replace HB := Aside0.mk (bel3 HB.out hb)
              replace HO := Aside0.mk ho
              clear ho hb ht x3
              have x3 := HX3.out _ HB.out
              go_wp2_with fail
              clear x3
              refine start_ (n := 14) (S := fun w' => Below w.heap.size w w' ∧ OutAt w' w.heap.size g (L ++ (M1 ++ bytesOf X.f3)) e ∧ w'.cell? ⟨(ad.add (i * 5)).block, (ad.add (i * 5)).off + 3, none⟩ = some (.string X.f3)) (ds := []) #[false, false, false, false, false, false, false, false, false, false, false, false, false, false] (by kernel_rfl) rfl rfl ⟨below_drew1 HB.out, HO.out.keep (below_drew1 (Below.refl _ _)), (HX3.out _ (below_drew1 HB.out))⟩ (fun hHeld => ?_)
              refine pure_ (i := 0) (N := some 120) (v := ?_) (a' := ?_) #[true, false, false, false, false, false, false, false, false, false, false, false, false, false] rfl rfl (by kernel_rfl) (fun _ _ _ h => h) (Or.inl ⟨by rfl, ?_⟩) ?_ ?_
              rotate_left
              · intro w'
                go_simp
                with_reducible rfl
              rotate_left
              · simp only [Act.put, List.setIfInBounds_toArray, List.set_cons_zero, List.set_cons_succ, i64_w, i32_w]
                rfl
              refine pure_ (i := 1) (N := some 121) (v := ?_) (a' := ?_) #[true, true, false, false, false, false, false, false, false, false, false, false, false, false] rfl rfl (by kernel_rfl) (fun _ _ _ h => h) (Or.inl ⟨by rfl, ?_⟩) ?_ ?_
              rotate_left
              · intro w'
                go_simp
                with_reducible rfl
              rotate_left
              · simp only [Act.put, List.setIfInBounds_toArray, List.set_cons_zero, List.set_cons_succ, i64_w, i32_w]
                rfl
              refine pure_ (i := 2) (N := some 122) (v := ?_) (a' := ?_) #[true, true, true, false, false, false, false, false, false, false, false, false, false, false] rfl rfl (by kernel_rfl) (fun _ _ _ h => h) (Or.inl ⟨by rfl, ?_⟩) ?_ ?_
              rotate_left
              · intro w'
                go_simp
                with_reducible rfl
              rotate_left
              · simp only [Act.put, List.setIfInBounds_toArray, List.set_cons_zero, List.set_cons_succ, i64_w, i32_w]
                rfl
              refine pure_ (i := 3) (N := some 123) (v := ?_) (a' := ?_) #[true, true, true, true, false, false, false, false, false, false, false, false, false, false] rfl rfl (by kernel_rfl) (fun _ _ _ h => h) (Or.inl ⟨by rfl, ?_⟩) ?_ ?_
              rotate_left
              · intro w'
                go_simp
                with_reducible rfl
              rotate_left
              · simp only [Act.put, List.setIfInBounds_toArray, List.set_cons_zero, List.set_cons_succ, i64_w, i32_w]
                rfl
              refine pure_ (i := 7) (N := some 127) (v := ?_) (a' := ?_) #[true, true, true, true, false, false, false, true, false, false, false, false, false, false] rfl rfl (by kernel_rfl) (fun _ _ _ h => h) (Or.inl ⟨by rfl, ?_⟩) ?_ ?_
              rotate_left
              · intro w'
                go_simp
                with_reducible rfl
              rotate_left
              · simp only [Act.put, List.setIfInBounds_toArray, List.set_cons_zero, List.set_cons_succ, i64_w, i32_w]
                rfl
              refine pure_ (i := 8) (N := some 128) (v := ?_) (a' := ?_) #[true, true, true, true, false, false, false, true, true, false, false, false, false, false] rfl rfl (by kernel_rfl) (fun _ _ _ h => h) (Or.inl ⟨by rfl, ?_⟩) ?_ ?_
              rotate_left
              · intro w'
                go_simp
                with_reducible rfl
              rotate_left
              · simp only [Act.put, List.setIfInBounds_toArray, List.set_cons_zero, List.set_cons_succ, i64_w, i32_w]
                rfl
              refine pure_ (i := 9) (N := some 129) (v := ?_) (a' := ?_) #[true, true, true, true, false, false, false, true, true, true, false, false, false, false] rfl rfl (by kernel_rfl) (fun _ _ _ h => h) (Or.inl ⟨by rfl, ?_⟩) ?_ ?_
              rotate_left
              · intro w'
                go_simp
                with_reducible rfl
              rotate_left
              · simp only [Act.put, List.setIfInBounds_toArray, List.set_cons_zero, List.set_cons_succ, i64_w, i32_w]
                rfl
              refine pure_ (i := 10) (N := some 130) (v := ?_) (a' := ?_) #[true, true, true, true, false, false, false, true, true, true, true, false, false, false] rfl rfl (by kernel_rfl) (fun _ _ _ h => h) (Or.inl ⟨by rfl, ?_⟩) ?_ ?_
              rotate_left
              · intro w'
                go_simp
                with_reducible rfl
              rotate_left
              · simp only [Act.put, List.setIfInBounds_toArray, List.set_cons_zero, List.set_cons_succ, i64_w, i32_w]
                rfl
              refine take_ (i := 4) (N := some 124) (v := ?_) (a' := ?_) #[true, true, true, true, true, false, false, true, true, true, true, false, false, false] rfl rfl (by kernel_rfl) (fun _ _ _ h => h) (Or.inl ⟨by rfl, ?_⟩) hHeld ?_ ?_
              rotate_left
              · rintro w' ⟨s0, s1, s2⟩
                go_simp
                with_reducible rfl
              rotate_left
              · simp only [Act.put, List.setIfInBounds_toArray, List.set_cons_zero, List.set_cons_succ, i64_w, i32_w]
                rfl
              refine pure_ (i := 5) (N := some 125) (v := ?_) (a' := ?_) #[true, true, true, true, true, true, false, true, true, true, true, false, false, false] rfl rfl (by kernel_rfl) (fun _ _ _ h => h) (Or.inl ⟨by rfl, ?_⟩) ?_ ?_
              rotate_left
              · intro w'
                go_simp
                with_reducible rfl
              rotate_left
              · simp only [Act.put, List.setIfInBounds_toArray, List.set_cons_zero, List.set_cons_succ, i64_w, i32_w]
                rfl
              refine take_ (i := 11) (N := some 131) (v := ?_) (a' := ?_) #[true, true, true, true, true, true, false, true, true, true, true, true, false, false] rfl rfl (by kernel_rfl) (fun _ _ _ h => h) (Or.inl ⟨by rfl, ?_⟩) hHeld ?_ ?_
              rotate_left
              · rintro w' ⟨s0, s1, s2⟩
                go_simp
                with_reducible rfl
              rotate_left
              · simp only [Act.put, List.setIfInBounds_toArray, List.set_cons_zero, List.set_cons_succ, i64_w, i32_w]
                rfl
              refine one_ (i := 6) (N := some 126) #[true, true, true, true, true, true, true, true, true, true, true, true, false, false] rfl rfl (by kernel_rfl) (by decide) (fun K hK => ?_)
              refine goes_ Try.func22 (by kernel_rfl) rfl #[.int .i64 X.f3.size, .int .i64 1] (by rfl) rfl rfl (by simp only [List.map_toArray, List.map_cons, List.map_nil]; rfl) ?_
              with_reducible refine (emulsionref1_Num.calls 2000 _ 1 _ _ HN.out).mono ?_
              rintro e w32 ⟨rfl, hb⟩
              refine ⟨_, rfl, ?_⟩
              refine hK.out _ _ ⟨below_step hHeld.1 hb, hHeld.2.1.keep hb, keepP hb hHeld.2.2⟩ (fun hHeld => ?_)
              clear hK K
              refine norm_ (a' := ?_) ?_ ?_
              rotate_left
              · show Act.put _ (some 126) _ = _
                simp only [Act.put, List.setIfInBounds_toArray, List.set_cons_zero, List.set_cons_succ, i64_w, i32_w]
                rfl
              refine pure_ (i := 12) (N := some 132) (v := ?_) (a' := ?_) #[true, true, true, true, true, true, true, true, true, true, true, true, true, false] rfl rfl (by kernel_rfl) (fun _ _ _ h => h) (Or.inl ⟨by rfl, ?_⟩) ?_ ?_
              rotate_left
              · intro w'
                go_simp
                with_reducible rfl
              rotate_left
              · simp only [Act.put, List.setIfInBounds_toArray, List.set_cons_zero, List.set_cons_succ, i64_w, i32_w]
                rfl
              refine pure_ (i := 13) (N := some 8) (v := ?_) (a' := ?_) #[true, true, true, true, true, true, true, true, true, true, true, true, true, true] rfl rfl (by kernel_rfl) (fun _ _ _ h => h) (Or.inl ⟨by rfl, ?_⟩) ?_ ?_
              rotate_left
              · intro w'
                go_simp
                with_reducible rfl
              rotate_left
              · simp only [Act.put, List.setIfInBounds_toArray, List.set_cons_zero, List.set_cons_succ, i64_w, i32_w]
                rfl
              refine done_ (by kernel_rfl) ?_
              replace HB := Aside0.mk hHeld.1
              replace HO := Aside0.mk hHeld.2.1
              clear hHeld
              go_wp2_with fail
              go_meet
              case rel => exact ⟨⟨M1 ++ bytesOf X.f3, 0, rfl, by rw [str_app, str_bytes], rfl, laid_ok HO.out, HMl.out, .inl rfl⟩, HB⟩
            · have Hs := Aside0.mk (show 255 < X.f3.size by omega)
              have t3 : ¬ (X.f3.size : Int) ≤ 255 := by omega
              clear hs
              go_wp2_with fail
              refine (out_text_no w.heap.size g L e X.f3 _ HO.out HB.out.size Hs.out).mono ?_
              rintro e9 w30 ⟨rfl, ho, hb, ht⟩
              replace HB := Aside0.mk (bel3 HB.out hb)
              replace HO := Aside0.mk ho
              clear ho hb ht x3
              have x3 := HX3.out _ HB.out
              go_wp2_with fail
              go_meet
              case rel => exact ⟨⟨[], 1, rfl, rfl, rfl, by rw [List.append_nil]; exact HO.out, by simp, .inr rfl⟩, HB⟩
          · have x4 := HX4.out _ HB.out
            have hX4 := Aside0.mk (show X.f4.length ≤ 1000000 by have := HLX.out.2; omega)
            go_wp2_with fail
            refine (lent_Extents A4 c4 X.f4 hX4.out _ (Kd.C_below HC4.out HB.out)).mono ?_
            rintro e9 w30 ⟨A9, c9, rfl, hm, hb⟩
            have HM := Aside0.mk hm
            replace HO := Aside0.mk (HO.out.keep hb)
            replace HB := Aside0.mk (below_step HB.out hb)
            clear hm hb x4
            go_wp2_with fail
            cases hv : tidyB 64 X.f4
            · refine (out_extents_no w.heap.size g L e A9 c9 X.f4 _ HO.out HB.out.size (lent_C HM.out) (by have := (R_len HM.out).2; omega) hX4.out hv).mono ?_
              rintro e9 w31 ⟨rfl, ho, hb, ht⟩
              replace HB := Aside0.mk (bel3 HB.out hb)
              replace HO := Aside0.mk ho
              replace HM := Aside0.mk (R_TFx HM.out ht)
              clear ho hb ht
              have x4 := HX4.out _ HB.out
              go_wp2_with fail
              refine (rvalid_calls A4 c4 X.f4 64 (by decide) _ (Kd.C_below HC4.out HB.out) Hc4.out).mono ?_
              rw [hv]
              rintro e9 w32 ⟨rfl, hb⟩
              replace HB := Aside0.mk (below_step HB.out hb)
              replace HO := Aside0.mk (HO.out.keep hb)
              replace HM := Aside0.mk (Kd.R_below HM.out hb)
              clear hb x4 hv
              have x4 := HX4.out _ HB.out
              go_wp2_with fail
              refine (stays_Extents A9 c9 A4 c4 X.f4 hX4.out _ HM.out Hc4.out (Kd.C_below HC4.out HB.out)).mono ?_
              rintro e9 w33 ⟨rfl, hb⟩
              replace HB := Aside0.mk (below_step HB.out hb)
              replace HO := Aside0.mk (HO.out.keep hb)
              clear hb x4
              go_wp2_with fail
              go_meet
              case rel => exact ⟨⟨[], 1, rfl, rfl, rfl, by rw [List.append_nil]; exact HO.out, by simp, .inr rfl⟩, HB⟩
            · have HV := Aside0.mk ((tidy_ref 64 X.f4).1 hv)
              refine (out_extents_ok w.heap.size g L e A9 c9 X.f4 _ HO.out HB.out.size (fun w1 ht => lent_C (R_TFx HM.out ht)) (by have := (R_len HM.out).2; omega) (by have := HLn.out; omega) hv).mono ?_
              rintro e9 w31 ⟨rfl, ho, hb, ht⟩
              rw [List.append_assoc] at ho
              replace HB := Aside0.mk (bel3 HB.out hb)
              replace HO := Aside0.mk ho
              replace HM := Aside0.mk (R_TFx HM.out ht)
              clear ho hb ht
              have x4 := HX4.out _ HB.out
              go_wp2_with fail
              refine (rvalid_calls A4 c4 X.f4 64 (by decide) _ (Kd.C_below HC4.out HB.out) Hc4.out).mono ?_
              rw [hv]
              rintro e9 w32 ⟨rfl, hb⟩
              replace HB := Aside0.mk (below_step HB.out hb)
              replace HO := Aside0.mk (HO.out.keep hb)
              replace HM := Aside0.mk (Kd.R_below HM.out hb)
              clear hb x4 hv
              have x4 := HX4.out _ HB.out
              go_wp2_with fail
              refine (emulsionref1_LayExtents.calls _ A4 c4 X.f4 _ _ (Kd.C_below HC4.out HB.out) Hc4.out (lay_eq X.f4 HV.out.1 (fun x hx => (HV.out.2.1 x hx).1))).mono ?_
              rintro e9 w34 ⟨rfl, hb⟩
              replace HB := Aside0.mk (below_step HB.out hb)
              replace HO := Aside0.mk (HO.out.keep hb)
              replace HM := Aside0.mk (Kd.R_below HM.out hb)
              clear hb x4
              have x4 := HX4.out _ HB.out
              go_wp2_with fail
              refine (stays_Extents A9 c9 A4 c4 X.f4 hX4.out _ HM.out Hc4.out (Kd.C_below HC4.out HB.out)).mono ?_
              rintro e9 w33 ⟨rfl, hb⟩
              replace HB := Aside0.mk (below_step HB.out hb)
              replace HO := Aside0.mk (HO.out.keep hb)
              clear hb x4
              go_wp2_with fail
              go_meet
              case rel => exact ⟨⟨leB 1 (X.f4.length : Int) ++ layL X.f4, 0, rfl, rfl, rfl, laid_ok HO.out, by rw [List.length_append, leB_length, layL_length]; have := HV.out.1; omega, .inl rfl⟩, HB⟩
      case rest =>
        obtain ⟨HLA, HB'⟩ := hcut
        obtain ⟨M, er, rfl, rfl, rfl, ho, hml, her⟩ := HLA.out
        have HO' := Aside0.mk ho
        have HL' : Aside0 ((L ++ M).length ≤ 400 * (i + 1)) := ⟨by rw [List.length_append]; have := HL.out; omega⟩
        have hsz : (strOfNums L).size + (strOfNums M).size ≤ 9223372036854775807 := by rw [strOfNums_size, strOfNums_size]; have := HLn.out; omega
        have hsz2 : (9223372036854775807 < (strOfNums L).size + (strOfNums M).size) = False := eq_false (by omega)
        clear HLA ho hml HO HB
        rcases HE.out with rfl | rfl
        all_goals rcases her with rfl | rfl
        all_goals
          go_wp2_with fail
          go_roundg kk
          case measure => omega
          case rel => exact ⟨i + 1, L ++ M, _, by omega, by go_num, by rw [str_app], rfl, HL', ⟨by decide⟩, HO', HB'⟩
    · obtain rfl : i = l.length := by omega
      have hlt' : ¬ (l.length : Int) < (l.length : Int) := by omega
      rcases HE.out with rfl | rfl
      · go_wp2_with fail
        refine (out_done w.heap.size g L _ HO.out).mono ?_
        rintro e9 w40 ⟨rfl, hw⟩
        subst w40
        go_wp2_with fail
        refine (out_done w.heap.size g L _ HO.out).mono ?_
        rintro e9 w40 ⟨rfl, hw⟩
        subst w40
        go_wp2_with fail
        refine (done_nil _).mono ?_
        rintro e9 w41 ⟨rfl, hb⟩
        replace HB := Aside0.mk (below_step HB.out hb)
        clear hb
        go_wp2_with fail
        refine (num_nil 1 1 _).mono ?_
        rintro e9 w42 ⟨rfl, hw⟩
        subst w42
        go_wp2_with fail
        refine (text_nil _ _).mono ?_
        rintro e9 w42 ⟨rfl, hw⟩
        subst w42
        go_wp2_with fail
        refine (ext_nil _ _).mono ?_
        rintro e9 w42 ⟨rfl, hw⟩
        subst w42
        go_wp2_with fail
        go_ret
        exact ⟨rfl, HB.out⟩
      · go_wp2_with fail
        refine (out_done_no w.heap.size g L 1 _ HO.out (by decide)).mono ?_
        rintro e9 w40 ⟨rfl, hb⟩
        replace HB := Aside0.mk (below_step HB.out hb)
        replace HO := Aside0.mk (HO.out.keep hb)
        clear hb
        go_wp2_with fail
        refine (out_done_no w.heap.size g L 1 _ HO.out (by decide)).mono ?_
        rintro e9 w40 ⟨rfl, hb⟩
        replace HB := Aside0.mk (below_step HB.out hb)
        clear hb HO
        go_wp2_with fail
        refine (done_nil _).mono ?_
        rintro e9 w41 ⟨rfl, hb⟩
        replace HB := Aside0.mk (below_step HB.out hb)
        clear hb
        go_wp2_with fail
        refine (num_nil 1 1 _).mono ?_
        rintro e9 w42 ⟨rfl, hw⟩
        subst w42
        go_wp2_with fail
        refine (text_nil _ _).mono ?_
        rintro e9 w42 ⟨rfl, hw⟩
        subst w42
        go_wp2_with fail
        refine (ext_nil _ _).mono ?_
        rintro e9 w42 ⟨rfl, hw⟩
        subst w42
        go_wp2_with fail
        go_ret
        exact ⟨rfl, HB.out⟩
theorem walk (A : Option Addr) (c : Nat) (l : List OP) (w : World) (hc : l.length ≤ c) (hC : Kd.C k40 w A l.length l) :
    Calls Try.prog 4 #[.slice A l.length c] w fun e w' => e = .returned (.bool true) ∧ Below w.heap.size w w' := main A c l w hC hc
end Go.Proofs.Ytacmfpkmcefcfaa.WOctetsWrite
end
