/- Parts of the proof for OctetsBack: Li13, Back13, WaOctetsBack. -/
import Derived.Laws.Bits128
import Derived.Test.YtacmfpkmcefcfaaJOctetsBack4
import Derived.Test.YtacmfpkmcefcfaaJOctetsBack6
import Derived.Test.YtacmfpkmcefcfaaJOctetsBack7
import Derived.Test.YtacmfpkmcefcfaaJOctetsBack1
import Derived.Test.YtacmfpkmcefcfaaJOctetsBack5
import Derived.Test.YtacmfpkmcefcfaaJOctetsBack9
section
namespace Go.Proofs.Ytacmfpkmcefcfaa.Hand
open Go.RowKit Go.Proofs.YtacmfpkmcefcfaaW.PrintWords Go.Proofs.YtacmfpkmcefcfaaW.PrintLast Go.Proofs.YtacmfpkmcefcfaaW.PrintMore Go.Proofs.Ytacmfpkmcefcfaa.A Go.Proofs.Ytacmfpkmcefcfaa.Maps Go.Proofs.Ytacmfpkmcefcfaa.ExtP
set_option linter.unusedVariables false
set_option linter.unusedSimpArgs false
attribute [local go_sem] max2_int min2_int max_two min_two max_three min_three max_four min_four
abbrev OP := S40
theorem rdO_at (l : List OP) (i : Nat) (h : i < l.length) : rd_T40 l (i : Int) = l[i] := by
  unfold rd_T40
  rw [Int.toNat_natCast, List.getD_eq_getElem?_getD, List.getElem?_eq_getElem h]; rfl
def lightP (x : OP) : Prop := x.f3.size ≤ 300 ∧ x.f4.length ≤ 80
/-- What Light tells. -/
def lightQ (l : List OP) (e : Ending) : Prop := ∃ b, e = .returned (.bool b) ∧ (b = true → l.length ≤ 40 ∧ ∀ x ∈ l, lightP x)
set_option maxRecDepth 100000 in
set_option maxHeartbeats 800000 in
theorem light13 (A : Option Addr) (c : Nat) (l : List OP) (w : World) (hC : Kd.C k40 w A l.length l) (hc : l.length ≤ c) :
    Calls Try.prog 21 #[.slice A l.length c] w fun e w' => lightQ l e ∧ w' = w := by
  have hln : (l.length : Int) ≤ 9223372036854775807 := by have := hC.2.1; omega
  have HC := Aside0.mk hC
  have Hc := Aside0.mk hc
  clear hC hc
  go_enter Try.func21, Try.ntmps21
  go_wp2_with fail
  go_loopg [3] (61 + l.length) (fun kq v wz => ∃ i : Nat, i + kq = 61 + l.length ∧ v = .int .i64 (i : Int) ∧ i ≤ 60 ∧ i ≤ l.length ∧ wz = w ∧ Aside0 (∀ j, j < i → lightP (rd_T40 l (j : Int))))
  case atStart => exact ⟨0, by omega, rfl, by omega, by omega, rfl, ⟨fun j hj => by omega⟩⟩
  case round =>
    obtain ⟨i, hi, rfl, h60, hil, rfl, HG⟩ := hrel
    obtain ⟨kk, rfl⟩ : ∃ z, gk = z + 1 := ⟨gk - 1, by omega⟩
    by_cases hlt : i < l.length
    · have hlt' : (i : Int) < (l.length : Int) := by omega
      by_cases h6 : i < 60
      · have h6' : (i : Int) < 60 := by omega
        obtain ⟨ad, A4, c4, e1, x0, x1, x2, x3, x4, _, _⟩ := at_T40 HC.out (i : Int) (by omega) (by omega)
        subst e1
        rw [Int.toNat_natCast] at x0 x1 x2 x3 x4
        generalize hX : rd_T40 l (i : Int) = X at x0 x1 x2 x3 x4
        have HX := Aside0.mk hX
        clear hX
        by_cases h3 : X.f3.size ≤ 300
        · have t3 : ¬ (300 : Int) < (X.f3.size : Int) := by omega
          by_cases h4 : X.f4.length ≤ 80
          · have t4 : ¬ (80 : Int) < (X.f4.length : Int) := by omega
            have HG2 : Aside0 (∀ j, j < i + 1 → lightP (rd_T40 l (j : Int))) := ⟨fun j hj => by
              by_cases e : j = i
              · rw [e, HX.out]; exact ⟨h3, h4⟩
              · exact HG.out j (by omega)⟩
            clear h3 h4 HG
            go_wp2_with fail
            go_roundg kk
            case measure => omega
            case rel => exact ⟨i + 1, by omega, by go_num, by omega, by omega, rfl, HG2⟩
          · have t4 : (80 : Int) < (X.f4.length : Int) := by omega
            clear h3 h4
            go_wp2_with fail
            go_ret
            exact ⟨⟨false, rfl, fun h => by cases h⟩, rfl⟩
        · have t3 : (300 : Int) < (X.f3.size : Int) := by omega
          clear h3
          go_wp2_with fail
          go_ret
          exact ⟨⟨false, rfl, fun h => by cases h⟩, rfl⟩
      · have h6' : ¬ (i : Int) < 60 := by omega
        have t40 : ¬ (l.length : Int) ≤ 40 := by omega
        go_wp2_with fail
        go_ret
        exact ⟨⟨false, rfl, fun h => by cases h⟩, rfl⟩
    · obtain rfl : i = l.length := by omega
      have hlt' : ¬ (l.length : Int) < (l.length : Int) := by omega
      by_cases h4 : l.length ≤ 40
      · have t40 : (l.length : Int) ≤ 40 := by omega
        have HA : Aside0 (l.length ≤ 40 ∧ ∀ x ∈ l, lightP x) := ⟨h4, fun x hx => by
          obtain ⟨j, hj, rfl⟩ := List.mem_iff_getElem.1 hx
          have := HG.out j hj
          rw [rdO_at l j hj] at this
          exact this⟩
        clear h4 HG
        go_wp2_with fail
        go_ret
        exact ⟨⟨true, rfl, fun _ => HA.out⟩, rfl⟩
      · have t40 : ¬ (l.length : Int) ≤ 40 := by omega
        clear h4
        go_wp2_with fail
        go_ret
        exact ⟨⟨false, rfl, fun h => by cases h⟩, rfl⟩
/-- A number that has so many bytes is written. -/
theorem out_num_yes (base g : Nat) (l : List Int) (e v n : Int) (w : World) (h : OutAt w base g l e) (hb : base ≤ w.heap.size) (hf : Fit v n) (hl : l.length ≤ 1000000) :
    Calls Try.prog 15 #[.pointer (some ⟨g, 0, none⟩), .int .i64 v, .int .i64 n] w fun r w' => r = .returned (.int .i64 0) ∧ OutAt w' base g (l ++ leB n.toNat v) e ∧ Below base w w' ∧ TFx w w' := by
  obtain ⟨h0, ⟨rfl, h1⟩ | ⟨rfl, h1⟩ | ⟨rfl, h1⟩ | ⟨rfl, h1⟩⟩ := hf
  · exact out_num1T base g l e v w h hb h0 h1 hl
  · exact out_num2T base g l e v w h hb h0 h1 hl
  · exact out_num3T base g l e v w h hb h0 h1 hl
  · exact out_num4T base g l e v w h hb h0 h1 hl
end Go.Proofs.Ytacmfpkmcefcfaa.Hand
end
section
namespace Go.Proofs.Ytacmfpkmcefcfaa.Hand
open Go.RowKit Go.Proofs.YtacmfpkmcefcfaaW.PrintWords Go.Proofs.YtacmfpkmcefcfaaW.PrintLast Go.Proofs.YtacmfpkmcefcfaaW.PrintMore Go.Proofs.Ytacmfpkmcefcfaa.A Go.Proofs.Ytacmfpkmcefcfaa.Maps Go.Proofs.Ytacmfpkmcefcfaa.ExtP
set_option linter.unusedVariables false
set_option linter.unusedSimpArgs false
theorem any_and255 (n : Int) : Go.bits .and .i64 n 255 = n % 256 := by
  have h : (BitVec.ofInt 64 255).toNat = 2 ^ 8 - 1 := by decide
  have key : (BitVec.ofInt 64 n &&& BitVec.ofInt 64 255).toNat = (n % ((2 ^ 64 : Nat) : Int)).toNat % 2 ^ 8 := by
    rw [BitVec.toNat_and, BitVec.toNat_ofInt, h, Nat.and_two_pow_sub_one_eq_mod]
  show IntKind.i64.wrap ((BitVec.ofInt 64 n &&& BitVec.ofInt 64 255).toNat : Nat) = n % 256
  rw [key, IntKind.wrap_i64]
  omega
theorem any_and65535 (n : Int) : Go.bits .and .i64 n 65535 = n % 65536 := by
  have h : (BitVec.ofInt 64 65535).toNat = 2 ^ 16 - 1 := by decide
  have key : (BitVec.ofInt 64 n &&& BitVec.ofInt 64 65535).toNat = (n % ((2 ^ 64 : Nat) : Int)).toNat % 2 ^ 16 := by
    rw [BitVec.toNat_and, BitVec.toNat_ofInt, h, Nat.and_two_pow_sub_one_eq_mod]
  show IntKind.i64.wrap ((BitVec.ofInt 64 n &&& BitVec.ofInt 64 65535).toNat : Nat) = n % 65536
  rw [key, IntKind.wrap_i64]
  omega
theorem any_and32 (n : Int) : Go.bits .and .i64 n 4294967295 = n % 4294967296 := by
  have h : (BitVec.ofInt 64 4294967295).toNat = 2 ^ 32 - 1 := by decide
  have key : (BitVec.ofInt 64 n &&& BitVec.ofInt 64 4294967295).toNat = (n % ((2 ^ 64 : Nat) : Int)).toNat % 2 ^ 32 := by
    rw [BitVec.toNat_and, BitVec.toNat_ofInt, h, Nat.and_two_pow_sub_one_eq_mod]
  show IntKind.i64.wrap ((BitVec.ofInt 64 n &&& BitVec.ofInt 64 4294967295).toNat : Nat) = n % 4294967296
  rw [key, IntKind.wrap_i64]
  omega
theorem rd_app (n : Nat) (hn : 1 ≤ n) (hn4 : n ≤ 4) (v : Int) (h0 : 0 ≤ v) (h1 : v < 256 ^ n) (s : ByteArray) (R : List Int) (hs : bytesOf s = leB n v ++ R) : ∃ s', rdNum (n : Int) s false = (v, s', false) ∧ bytesOf s' = R := by
  have hz : s.size = n + R.length := by rw [← bytes_size, hs, List.length_append, leB_length]
  refine ⟨s.extract n s.size, ?_, ?_⟩
  · unfold rdNum
    rw [if_neg Bool.false_ne_true, if_neg (by omega), if_neg (by omega), if_neg (by omega), Int.toNat_natCast]
    have : bytesOf (s.extract 0 n) = leB n v := by
      rw [bytes_cut, hs, List.drop_zero, Nat.sub_zero, List.take_append_of_le_length (by rw [leB_length]; omega), List.take_of_length_le (by rw [leB_length]; omega)]
    rw [this, leV_leB n v h0 h1]
  · rw [bytes_cut, hs, List.drop_left' (leB_length n v), List.take_of_length_le (by omega)]
theorem rd_take_app (t s : ByteArray) (R : List Int) (hs : bytesOf s = bytesOf t ++ R) : ∃ s', rdTake (t.size : Int) s false = (t, true, s', false) ∧ bytesOf s' = R := by
  have hz : s.size = t.size + R.length := by rw [← bytes_size, hs, List.length_append, bytes_size]
  refine ⟨s.extract t.size s.size, ?_, ?_⟩
  · unfold rdTake
    rw [if_neg Bool.false_ne_true, if_neg (by omega), Int.toNat_natCast]
    have : s.extract 0 t.size = t := by
      apply bytes_inj
      rw [bytes_cut, hs, List.drop_zero, Nat.sub_zero, List.take_append_of_le_length (by rw [bytes_size]; omega), List.take_of_length_le (by rw [bytes_size]; omega)]
    rw [this]
  · rw [bytes_cut, hs, List.drop_left' (bytes_size t), List.take_of_length_le (by omega)]
theorem rd_text_app (t s : ByteArray) (ht : t.size ≤ 255) (R : List Int) (hs : bytesOf s = leB 1 (t.size : Int) ++ (bytesOf t ++ R)) : ∃ s', rdText s false = (t, s', false) ∧ bytesOf s' = R := by
  obtain ⟨s1, h1, h2⟩ := rd_app 1 (by omega) (by omega) (t.size : Int) (by omega) (by omega) s _ hs
  obtain ⟨s2, h3, h4⟩ := rd_take_app t s1 R h2
  refine ⟨s2, ?_, h4⟩
  unfold rdText
  rw [show ((1 : Nat) : Int) = 1 from rfl] at h1
  rw [h1]
  simp only
  rw [h3]
theorem rd_es_app (l : List EX) (hal : ∀ x ∈ l, alone x) (s : ByteArray) (R : List Int) (hs : bytesOf s = layL l ++ R) : ∀ k, k ≤ l.length → ∃ s', rdEs k s false = (l.take k, s', false) ∧ bytesOf s' = layL (l.drop k) ++ R
  | 0, _ => ⟨s, rfl, by rw [List.drop_zero]; exact hs⟩
  | k + 1, hk => by
    obtain ⟨s1, h1, h2⟩ := rd_es_app l hal s R hs k (by omega)
    have hlt : k < l.length := by omega
    have hX := hal l[k] (List.getElem_mem hlt)
    have hdr : l.drop k = l[k] :: l.drop (k + 1) := List.drop_eq_getElem_cons hlt
    have htk : l.take (k + 1) = l.take k ++ [l[k]] := List.take_succ_eq_append_getElem hlt
    rw [hdr] at h2
    generalize l[k] = X at *
    obtain ⟨a1, a2, a3, a4, a5⟩ := hX
    have e : layL (X :: l.drop (k + 1)) ++ R = leB 1 X.f0 ++ (leB 1 X.f1 ++ (leB 1 X.f2 ++ (layL (l.drop (k + 1)) ++ R))) := by
      unfold layL
      rw [List.flatMap_cons]
      unfold layX
      simp only [List.append_assoc]
    rw [e] at h2
    obtain ⟨s2, h3, h4⟩ := rd_app 1 (by omega) (by omega) X.f0 (by omega) (by omega) s1 _ h2
    obtain ⟨s3, h5, h6⟩ := rd_app 1 (by omega) (by omega) X.f1 (by omega) (by omega) s2 _ h4
    obtain ⟨s4, h7, h8⟩ := rd_app 1 (by omega) (by omega) X.f2 (by omega) (by omega) s3 _ h6
    exact ⟨s4, by rw [htk]; exact rdEs_succ h1 (rdE_of h3 h5 h7), h8⟩
theorem rd_ext_app (l : List EX) (hl : l.length ≤ 255) (hal : ∀ x ∈ l, alone x) (s : ByteArray) (R : List Int) (hs : bytesOf s = leB 1 (l.length : Int) ++ (layL l ++ R)) :
    ∃ s1 s', rdNum 1 s false = ((l.length : Int), s1, false) ∧ rdEs l.length s1 false = (l, s', false) ∧ rdExt true s false = (l, s', false) ∧ bytesOf s' = R := by
  obtain ⟨s1, h1, h2⟩ := rd_app 1 (by omega) (by omega) (l.length : Int) (by omega) (by omega) s _ hs
  obtain ⟨s2, h3, h4⟩ := rd_es_app l hal s1 R h2 l.length (Nat.le_refl _)
  rw [show ((1 : Nat) : Int) = 1 from rfl] at h1
  rw [List.take_length] at h3
  rw [List.drop_length] at h4
  refine ⟨s1, s2, h1, h3, ?_, h4⟩
  unfold rdExt
  rw [h1]
  simp only [Int.toNat_natCast]
  rw [h3]
  rfl
/-- The text that is written of a thing. -/
def cutT (s : ByteArray) : ByteArray := s.extract 0 (min s.size 255)
/-- The bytes of a thing. -/
def itemB (x : OP) : List Int :=
  if x.f0 = 1 then leB 1 (x.f1 % 256) ++ (leB 2 (x.f1 % 65536) ++ leB 4 (x.f1 % 4294967296))
  else if x.f0 = 2 then leB 1 ((cutT x.f3).size : Int) ++ bytesOf (cutT x.f3)
  else leB 1 ((exM (ofM x.f4)).length : Int) ++ layL (exM (ofM x.f4))
theorem cutT_size (s : ByteArray) : (cutT s).size = min s.size 255 := by unfold cutT; rw [ByteArray.size_extract]; omega
theorem itemB_length (x : OP) : (itemB x).length ≤ 400 := by
  unfold itemB
  split
  · simp [leB_length]
  · split
    · rw [List.length_append, leB_length, bytes_size, cutT_size]; omega
    · have := exM_length (ofM x.f4)
      rw [List.length_append, leB_length, layL_length]; omega
/-- The bytes of things. -/
def itemsB (l : List OP) : List Int := l.flatMap itemB
theorem itemsB_snoc (l : List OP) (x : OP) : itemsB (l ++ [x]) = itemsB l ++ itemB x := by unfold itemsB; rw [List.flatMap_append]; simp
theorem itemsB_cons (x : OP) (l : List OP) : itemsB (x :: l) = itemB x ++ itemsB l := by unfold itemsB; rw [List.flatMap_cons]
end Go.Proofs.Ytacmfpkmcefcfaa.Hand
end
section
namespace Go.Proofs.Ytacmfpkmcefcfaa.WOctetsBack
open Go.RowKit Go.Proofs.YtacmfpkmcefcfaaW.PrintWords Go.Proofs.YtacmfpkmcefcfaaW.PrintLast Go.Proofs.YtacmfpkmcefcfaaW.PrintMore Go.Proofs.Ytacmfpkmcefcfaa.A Go.Proofs.Ytacmfpkmcefcfaa.Hand Go.Proofs.Ytacmfpkmcefcfaa.Maps Go.Proofs.Ytacmfpkmcefcfaa.ExtP
set_option linter.unusedVariables false
set_option linter.unusedSimpArgs false
attribute [local go_sem] max2_int min2_int max_two min_two max_three min_three max_four min_four
theorem in_numV (n v : Int) (s' : ByteArray) (b' : Bool) (w0 : World) (g : Nat) (s : ByteArray) (b : Bool) (w : World) (hR : rdNum n s b = (v, s', b')) (hB : Below w0.heap.size w0 w) (h : InAt w w0.heap.size g s b) :
    Calls Try.prog 19 #[.pointer (some ⟨g, 0, none⟩), .int .i64 n] w fun e w' => e = .returned (.int .i64 v) ∧ InAt w' w0.heap.size g s' b' ∧ Only w w' g := by
  have := in_num n w0 g s b w hB h
  rw [hR] at this
  exact this
theorem in_textV (t s' : ByteArray) (b' : Bool) (w0 : World) (g : Nat) (s : ByteArray) (b : Bool) (w : World) (hR : rdText s b = (t, s', b')) (hB : Below w0.heap.size w0 w) (h : InAt w w0.heap.size g s b) :
    Calls Try.prog 30 #[.pointer (some ⟨g, 0, none⟩)] w fun e w' => e = .returned (.string t) ∧ InAt w' w0.heap.size g s' b' ∧ Only w w' g := by
  have := in_text w0 g s b w hB h
  rw [hR] at this
  exact this
theorem len_items (l : List OP) (h : l.length ≤ 40) : (itemsB l).length ≤ 16000 := by
  have : ∀ l : List OP, (itemsB l).length ≤ 400 * l.length := by
    intro l
    induction l with
    | nil => simp [itemsB]
    | cons x l ih => rw [itemsB_cons, List.length_append, List.length_cons]; have := itemB_length x; omega
  have := this l
  omega
theorem items_in (l : List OP) : ∀ y ∈ itemsB l, 0 ≤ y ∧ y < 256 := by
  intro y hy
  unfold itemsB at hy
  obtain ⟨x, _, hx⟩ := List.mem_flatMap.1 hy
  unfold itemB at hx
  split at hx
  · simp only [List.mem_append] at hx
    rcases hx with hx | hx | hx
    · exact leB_in _ _ y hx
    · exact leB_in _ _ y hx
    · exact leB_in _ _ y hx
  · split at hx
    · rcases List.mem_append.1 hx with hx | hx
      · exact leB_in _ _ y hx
      · exact bytes_in _ y hx
    · rcases List.mem_append.1 hx with hx | hx
      · exact leB_in _ _ y hx
      · unfold layL at hx
        obtain ⟨z, _, hz⟩ := List.mem_flatMap.1 hx
        unfold layX at hz
        simp only [List.mem_append] at hz
        rcases hz with (hz | hz) | hz
        · exact leB_in _ _ y hz
        · exact leB_in _ _ y hz
        · exact leB_in _ _ y hz
set_option maxRecDepth 100000 in
set_option maxHeartbeats 4000000 in
theorem main (A : Option Addr) (c : Nat) (l : List OP) (w : World) (hC : Kd.C k40 w A l.length l) (hc : l.length ≤ c) :
    Calls Try.prog 7 #[.slice A l.length c] w fun e w' => e = .returned (.bool true) ∧ Below w.heap.size w w' := by
  have hln : (l.length : Int) ≤ 9223372036854775807 := by have := hC.2.1; omega
  have HC := Aside0.mk hC
  have Hc := Aside0.mk hc
  have HB := Aside0.mk (Below.refl w.heap.size w)
  clear hC hc
  go_enter Try.func7, Try.ntmps7
  go_wp2_with fail
  refine (light13 A c l _ HC.out Hc.out).mono ?_
  rintro e w1 ⟨⟨b, rfl, hb⟩, hw⟩
  subst w1
  have HLI := Aside0.mk hb
  clear hb
  cases b
  · go_wp2_with fail
    refine (alive13 _).mono ?_
    rintro e w2 ⟨rfl, hB⟩
    go_wp2_with fail
    go_ret
    exact ⟨rfl, hB⟩
  obtain ⟨h40, _⟩ := HLI.out rfl
  have H40 := Aside0.mk h40
  clear HLI h40
  go_wp2_with fail
  refine (alive13 _).mono ?_
  rintro e w2 ⟨rfl, hB⟩
  replace HB := Aside0.mk hB
  clear hB
  go_wp2_with fail
  have HO := Aside0.mk (OutAt.new w2 w.heap.size HB.out.size)
  refine code_abs (fun Z => Below w.heap.size w Z ∧ OutAt Z w.heap.size w2.heap.size [] 0) ⟨below_alloc HB.out _, HO.out⟩ ?_
  rintro w3 ⟨q1, q2⟩
  replace HB := Aside0.mk q1
  replace HO := Aside0.mk q2
  clear q1 q2
  generalize w2.heap.size = g at *
  go_loopg [4] l.length (fun kq v4 wz => ∃ i : Nat, i + kq = l.length ∧ v4 = .int .i64 (i : Int) ∧ Aside0 (OutAt wz w.heap.size g (itemsB (l.take i)) 0) ∧ Aside0 (Below w.heap.size w wz))
  case atStart => exact ⟨0, by omega, rfl, HO, HB⟩
  case round =>
    clear HO HB
    obtain ⟨i, hi, rfl, HO, HB⟩ := hrel
    by_cases hlt : i < l.length
    · obtain ⟨kk, rfl⟩ : ∃ z, gk = z + 1 := ⟨gk - 1, by omega⟩
      have hlt' : (i : Int) < (l.length : Int) := by omega
      have htk : l.take (i + 1) = l.take i ++ [rd_T40 l (i : Int)] := by rw [rdO_at l i hlt]; exact List.take_succ_eq_append_getElem hlt
      have Htk := Aside0.mk htk
      have HLn := Aside0.mk (len_items (l.take i) (by have := H40.out; rw [List.length_take]; omega))
      clear htk
      obtain ⟨ad, A4, c4, e1, x0, x1, x2, x3, x4, hc4, hC4⟩ := at_T40 HC.out (i : Int) (by omega) (by omega)
      subst e1
      rw [Int.toNat_natCast] at x0 x1 x2 x3 x4
      generalize hXi : rd_T40 l (i : Int) = X at x0 x1 x2 x3 x4 hc4 hC4
      have HXi := Aside0.mk hXi
      have HC4 := Aside0.mk hC4
      have Hc4 := Aside0.mk hc4
      have HX0 := Aside0.mk (fun (W : World) (hb : Below w.heap.size w W) => keepP hb x0)
      have HX1 := Aside0.mk (fun (W : World) (hb : Below w.heap.size w W) => keepP hb x1)
      have HX3 := Aside0.mk (fun (W : World) (hb : Below w.heap.size w W) => keepP hb x3)
      have HX4 := Aside0.mk (fun (W : World) (hb : Below w.heap.size w W) => keepP hb x4)
      clear x0 x1 x2 x3 x4 hc4 hC4 hXi
      have g1 := any_and255 X.f1
      have g2 := any_and65535 X.f1
      have g3 := any_and32 X.f1
      obtain ⟨p1, hp1⟩ : ∃ p, p = X.f1 % 256 := ⟨_, rfl⟩
      obtain ⟨p2, hp2⟩ : ∃ p, p = X.f1 % 65536 := ⟨_, rfl⟩
      obtain ⟨p3, hp3⟩ : ∃ p, p = X.f1 % 4294967296 := ⟨_, rfl⟩
      rw [← hp1] at g1
      rw [← hp2] at g2
      rw [← hp3] at g3
      have P1 := Aside0.mk hp1
      have P2 := Aside0.mk hp2
      have P3 := Aside0.mk hp3
      clear hp1 hp2 hp3
      obtain ⟨C, hCt⟩ : ∃ C, C = cutT X.f3 := ⟨_, rfl⟩
      have HCt := Aside0.mk hCt
      have HCs : Aside0 (C.size ≤ 255) := ⟨by rw [hCt, cutT_size]; omega⟩
      obtain ⟨m, hm⟩ : ∃ m, m = min X.f3.size 255 := ⟨_, rfl⟩
      have hmn : (if (255 : Int) < (X.f3.size : Int) then (255 : Int) else (X.f3.size : Int)) = (m : Int) := by split <;> omega
      have hm1 : (m : Int) ≤ (X.f3.size : Int) := by omega
      have hm0 : (0 : Int) ≤ (m : Int) := by omega
      have hcut : X.f3.extract 0 m = C := by rw [hCt, hm]; rfl
      clear hCt hm
      obtain ⟨T, hT⟩ : ∃ T, T = exM (ofM X.f4) := ⟨_, rfl⟩
      have HTe := Aside0.mk hT
      have HTt : Aside0 (tidyB 64 T = true) := ⟨by rw [hT]; exact tidy_exM (okM.of X.f4)⟩
      have HTl : Aside0 (T.length ≤ 1000000) := ⟨by rw [hT]; have := exM_length (ofM X.f4); omega⟩
      have HT : Aside0 (law10_Tidy.f X.f4 = some T) := ⟨by rw [hT]; rfl⟩
      clear hT
      have HIB : Aside0 (itemB X = if X.f0 = 1 then leB 1 p1 ++ (leB 2 p2 ++ leB 4 p3) else if X.f0 = 2 then leB 1 (C.size : Int) ++ bytesOf C else leB 1 (T.length : Int) ++ layL T) := ⟨by rw [P1.out, P2.out, P3.out, HCt.out, HTe.out]; rfl⟩
      rw [HXi.out] at Htk
      obtain ⟨L0, hL0⟩ : ∃ L0, L0 = itemsB (l.take i) := ⟨_, rfl⟩
      rw [← hL0] at HO HLn
      have HNX : Aside0 (itemsB (l.take (i + 1)) = L0 ++ itemB X) := ⟨by rw [Htk.out, itemsB_snoc, hL0]⟩
      clear hL0 Htk
      have x0 := HX0.out _ HB.out
      by_cases hk1 : X.f0 = 1
      · rw [if_pos hk1] at HIB
        have x1 := HX1.out _ HB.out
        go_wp2_with fail
        refine (out_num_yes w.heap.size g _ 0 p1 1 _ HO.out HB.out.size (by have := P1.out; unfold Fit; omega) (by have := HLn.out; omega)).mono ?_
        rintro e9 w30 ⟨rfl, ho, hb, ht⟩
        replace HB := Aside0.mk (bel3 HB.out hb)
        replace HO := Aside0.mk ho
        clear ho hb ht x0 x1
        have x1 := HX1.out _ HB.out
        go_wp2_with fail
        refine (out_num_yes w.heap.size g _ 0 p2 2 _ HO.out HB.out.size (by have := P2.out; unfold Fit; omega) (by rw [List.length_append]; simp [leB_length]; have := HLn.out; omega)).mono ?_
        rintro e9 w31 ⟨rfl, ho, hb, ht⟩
        replace HB := Aside0.mk (bel3 HB.out hb)
        replace HO := Aside0.mk ho
        clear ho hb ht x1
        have x1 := HX1.out _ HB.out
        go_wp2_with fail
        refine (out_num_yes w.heap.size g _ 0 p3 4 _ HO.out HB.out.size (by have := P3.out; unfold Fit; omega) (by rw [List.length_append, List.length_append]; simp [leB_length]; have := HLn.out; omega)).mono ?_
        rintro e9 w32 ⟨rfl, ho, hb, ht⟩
        replace HB := Aside0.mk (bel3 HB.out hb)
        have HO2 : Aside0 (OutAt w32 w.heap.size g (itemsB (l.take (i + 1))) 0) := ⟨by
          rw [HNX.out, HIB.out]
          have h := ho
          simp only [List.append_assoc] at h
          exact h⟩
        clear ho hb ht x1 HO
        go_wp2_with fail
        go_roundg kk
        case measure => omega
        case rel => exact ⟨i + 1, by omega, by go_num, HO2, HB⟩
      · rw [if_neg hk1] at HIB
        by_cases hk2 : X.f0 = 2
        · rw [if_pos hk2] at HIB
          have HFIN : Aside0 (∀ W : World, OutAt W w.heap.size g (L0 ++ leB 1 (C.size : Int) ++ bytesOf C) 0 → OutAt W w.heap.size g (itemsB (l.take (i + 1))) 0) := ⟨fun W h => by
            rw [HNX.out, HIB.out, ← List.append_assoc]; exact h⟩
          go_wp2_with fail
          clear x0
          refine start_ (n := 15) (S := fun w' => Below w.heap.size w w' ∧ w'.cell? ⟨(ad.add (i * 5)).block, (ad.add (i * 5)).off + 3, none⟩ = some (.string X.f3)) (ds := [14]) #[false, false, false, false, false, false, false, false, false, false, false, false, false, false, false] (by kernel_rfl) rfl rfl ⟨below_drew1 HB.out, (HX3.out _ (below_drew1 HB.out))⟩ (fun hHeld => ?_)
          refine pure_ (i := 0) (N := some 66) (v := ?_) (a' := ?_) #[true, false, false, false, false, false, false, false, false, false, false, false, false, false, false] rfl rfl (by kernel_rfl) (fun _ _ _ h => h) (Or.inl ⟨by rfl, ?_⟩) ?_ ?_
          rotate_left
          · intro w'
            go_simp
            with_reducible rfl
          rotate_left
          · simp only [Act.put, List.setIfInBounds_toArray, List.set_cons_zero, List.set_cons_succ, i64_w, i32_w]
            rfl
          refine pure_ (i := 1) (N := some 67) (v := ?_) (a' := ?_) #[true, true, false, false, false, false, false, false, false, false, false, false, false, false, false] rfl rfl (by kernel_rfl) (fun _ _ _ h => h) (Or.inl ⟨by rfl, ?_⟩) ?_ ?_
          rotate_left
          · intro w'
            go_simp
            with_reducible rfl
          rotate_left
          · simp only [Act.put, List.setIfInBounds_toArray, List.set_cons_zero, List.set_cons_succ, i64_w, i32_w]
            rfl
          refine pure_ (i := 2) (N := some 68) (v := ?_) (a' := ?_) #[true, true, true, false, false, false, false, false, false, false, false, false, false, false, false] rfl rfl (by kernel_rfl) (fun _ _ _ h => h) (Or.inl ⟨by rfl, ?_⟩) ?_ ?_
          rotate_left
          · intro w'
            go_simp
            with_reducible rfl
          rotate_left
          · simp only [Act.put, List.setIfInBounds_toArray, List.set_cons_zero, List.set_cons_succ, i64_w, i32_w]
            rfl
          refine pure_ (i := 3) (N := some 69) (v := ?_) (a' := ?_) #[true, true, true, true, false, false, false, false, false, false, false, false, false, false, false] rfl rfl (by kernel_rfl) (fun _ _ _ h => h) (Or.inl ⟨by rfl, ?_⟩) ?_ ?_
          rotate_left
          · intro w'
            go_simp
            with_reducible rfl
          rotate_left
          · simp only [Act.put, List.setIfInBounds_toArray, List.set_cons_zero, List.set_cons_succ, i64_w, i32_w]
            rfl
          refine pure_ (i := 4) (N := some 70) (v := ?_) (a' := ?_) #[true, true, true, true, true, false, false, false, false, false, false, false, false, false, false] rfl rfl (by kernel_rfl) (fun _ _ _ h => h) (Or.inl ⟨by rfl, ?_⟩) ?_ ?_
          rotate_left
          · intro w'
            go_simp
            with_reducible rfl
          rotate_left
          · simp only [Act.put, List.setIfInBounds_toArray, List.set_cons_zero, List.set_cons_succ, i64_w, i32_w]
            rfl
          refine pure_ (i := 6) (N := some 72) (v := ?_) (a' := ?_) #[true, true, true, true, true, false, true, false, false, false, false, false, false, false, false] rfl rfl (by kernel_rfl) (fun _ _ _ h => h) (Or.inl ⟨by rfl, ?_⟩) ?_ ?_
          rotate_left
          · intro w'
            go_simp
            with_reducible rfl
          rotate_left
          · simp only [Act.put, List.setIfInBounds_toArray, List.set_cons_zero, List.set_cons_succ, i64_w, i32_w]
            rfl
          refine pure_ (i := 7) (N := some 73) (v := ?_) (a' := ?_) #[true, true, true, true, true, false, true, true, false, false, false, false, false, false, false] rfl rfl (by kernel_rfl) (fun _ _ _ h => h) (Or.inl ⟨by rfl, ?_⟩) ?_ ?_
          rotate_left
          · intro w'
            go_simp
            with_reducible rfl
          rotate_left
          · simp only [Act.put, List.setIfInBounds_toArray, List.set_cons_zero, List.set_cons_succ, i64_w, i32_w]
            rfl
          refine pure_ (i := 8) (N := some 74) (v := ?_) (a' := ?_) #[true, true, true, true, true, false, true, true, true, false, false, false, false, false, false] rfl rfl (by kernel_rfl) (fun _ _ _ h => h) (Or.inl ⟨by rfl, ?_⟩) ?_ ?_
          rotate_left
          · intro w'
            go_simp
            with_reducible rfl
          rotate_left
          · simp only [Act.put, List.setIfInBounds_toArray, List.set_cons_zero, List.set_cons_succ, i64_w, i32_w]
            rfl
          refine pure_ (i := 9) (N := some 75) (v := ?_) (a' := ?_) #[true, true, true, true, true, false, true, true, true, true, false, false, false, false, false] rfl rfl (by kernel_rfl) (fun _ _ _ h => h) (Or.inl ⟨by rfl, ?_⟩) ?_ ?_
          rotate_left
          · intro w'
            go_simp
            with_reducible rfl
          rotate_left
          · simp only [Act.put, List.setIfInBounds_toArray, List.set_cons_zero, List.set_cons_succ, i64_w, i32_w]
            rfl
          refine take_ (i := 5) (N := some 71) (v := ?_) (a' := ?_) #[true, true, true, true, true, true, true, true, true, true, false, false, false, false, false] rfl rfl (by kernel_rfl) (fun _ _ _ h => h) (Or.inl ⟨by rfl, ?_⟩) hHeld ?_ ?_
          rotate_left
          · rintro w' ⟨s0, s1⟩
            go_simp
            with_reducible rfl
          rotate_left
          · simp only [Act.put, List.setIfInBounds_toArray, List.set_cons_zero, List.set_cons_succ, i64_w, i32_w]
            rfl
          refine take_ (i := 10) (N := some 76) (v := ?_) (a' := ?_) #[true, true, true, true, true, true, true, true, true, true, true, false, false, false, false] rfl rfl (by kernel_rfl) (fun _ _ _ h => h) (Or.inl ⟨by rfl, ?_⟩) hHeld ?_ ?_
          rotate_left
          · rintro w' ⟨s0, s1⟩
            go_simp
            with_reducible rfl
          rotate_left
          · simp only [Act.put, List.setIfInBounds_toArray, List.set_cons_zero, List.set_cons_succ, i64_w, i32_w]
            rfl
          refine pure_ (i := 11) (N := some 77) (v := ?_) (a' := ?_) #[true, true, true, true, true, true, true, true, true, true, true, true, false, false, false] rfl rfl (by kernel_rfl) (fun _ _ _ h => h) (Or.inl ⟨by rfl, ?_⟩) ?_ ?_
          rotate_left
          · intro w'
            go_simp
            with_reducible rfl
          rotate_left
          · simp only [Act.put, List.setIfInBounds_toArray, List.set_cons_zero, List.set_cons_succ, i64_w, i32_w]
            rfl
          refine pure_ (i := 12) (N := some 78) (v := ?_) (a' := ?_) #[true, true, true, true, true, true, true, true, true, true, true, true, true, false, false] rfl rfl (by kernel_rfl) (fun _ _ _ h => h) (Or.inl ⟨by rfl, ?_⟩) ?_ ?_
          rotate_left
          · intro w'
            go_simp
            with_reducible rfl
          rotate_left
          · simp only [Act.put, List.setIfInBounds_toArray, List.set_cons_zero, List.set_cons_succ, i64_w, i32_w]
            rfl
          refine pure_ (i := 13) (N := some 79) (v := ?_) (a' := ?_) #[true, true, true, true, true, true, true, true, true, true, true, true, true, true, false] rfl rfl (by kernel_rfl) (fun _ _ _ h => h) (Or.inl ⟨by rfl, ?_⟩) ?_ ?_
          rotate_left
          · intro w'
            go_simp
            with_reducible rfl
          rotate_left
          · simp only [Act.put, List.setIfInBounds_toArray, List.set_cons_zero, List.set_cons_succ, i64_w, i32_w]
            rfl
          refine last_ (i := 14) (N := some 80) #[true, true, true, true, true, true, true, true, true, true, true, true, true, true, true] rfl rfl (by kernel_rfl) (by decide) (fun K hK => ?_)
          refine goes_ Try.func23 (by kernel_rfl) rfl #[.pointer (some ⟨g, 0, none⟩), .string C] (by rfl) rfl rfl (by simp only [List.map_toArray, List.map_cons, List.map_nil]; rfl) ?_
          with_reducible refine (out_textT w.heap.size g L0 0 C _ (HO.out.keep (below_drew1 (Below.refl _ _))) hHeld.1.size HCs.out (by have := HLn.out; omega)).mono ?_
          rintro e w30 ⟨rfl, ho, hb, ht⟩
          refine ⟨_, rfl, ?_⟩
          refine hK.out _ _ ?_
          clear hK K
          refine norm_ (a' := ?_) ?_ ?_
          rotate_left
          · show Act.put _ (some 80) _ = _
            simp only [Act.put, List.setIfInBounds_toArray, List.set_cons_zero, List.set_cons_succ, i64_w, i32_w]
            rfl
          refine done_ (by kernel_rfl) ?_
          have HB2 := Aside0.mk (bel3 hHeld.1 hb)
          have HO2 := Aside0.mk (HFIN.out _ ho)
          clear hHeld ho hb ht HO HB
          go_wp2_with fail
          go_roundg kk
          case measure => omega
          case rel => exact ⟨i + 1, by omega, by go_num, HO2, HB2⟩
        · rw [if_neg hk2] at HIB
          have x4 := HX4.out _ HB.out
          go_wp2_with fail
          refine (law10_Tidy.calls A4 c4 X.f4 T _ (Kd.C_below HC4.out HB.out) Hc4.out HT.out).mono ?_
          rintro e9 w30 ⟨v, rfl, hv, hb⟩
          replace HO := Aside0.mk (HO.out.keep hb)
          replace HB := Aside0.mk (below_step HB.out hb)
          obtain ⟨A9, c9, rfl, hc9, _⟩ := Kd.R_reads hv
          have HV := Aside0.mk hv
          have Hc9 := Aside0.mk hc9
          clear hv hb hc9 x0 x4
          go_wp2_with fail
          refine (out_extents_ok w.heap.size g L0 0 A9 c9 T _ HO.out HB.out.size (fun w1 ht => by
            obtain ⟨A8, c8, he, _, hC8⟩ := Kd.R_reads (R_TFx HV.out ht)
            injection he with h1 _ _
            subst h1
            exact hC8) Hc9.out (by have := HLn.out; omega) HTt.out).mono ?_
          rintro e9 w31 ⟨rfl, ho, hb, ht⟩
          have HB2 := Aside0.mk (bel3 HB.out hb)
          have HO2 : Aside0 (OutAt w31 w.heap.size g (itemsB (l.take (i + 1))) 0) := ⟨by
            rw [HNX.out, HIB.out, ← List.append_assoc]; exact ho⟩
          clear ho hb ht HO HB
          go_wp2_with fail
          go_roundg kk
          case measure => omega
          case rel => exact ⟨i + 1, by omega, by go_num, HO2, HB2⟩
    · obtain rfl : i = l.length := by omega
      have hlt' : ¬ (l.length : Int) < (l.length : Int) := by omega
      rw [List.take_length] at HO
      go_wp2_with fail
      refine (out_done w.heap.size g _ _ HO.out).mono ?_
      rintro e9 w40 ⟨rfl, hw⟩
      subst w40
      have HBY : Aside0 (bytesOf (strOfNums (itemsB l)) = itemsB l) := ⟨bytes_str _ (items_in l)⟩
      generalize strOfNums (itemsB l) = SS at *
      clear HO
      go_wp2_with fail
      refine (in_from w SS _ HB.out).mono ?_
      rintro e9 w41 ⟨gi, rfl, hi1, _, hb⟩
      have HI := Aside0.mk hi1
      replace HB := Aside0.mk (below_step HB.out hb)
      have HIg := Aside0.mk (show w.heap.size ≤ gi from hi1.2.1)
      clear hi1 hb
      go_wp2_with fail
      go_loopg [8] l.length (fun kq v8 wz => ∃ (i : Nat) (s0 : ByteArray), i + kq = l.length ∧ v8 = .int .i64 (i : Int) ∧ Aside0 (bytesOf s0 = itemsB (l.drop i)) ∧ Aside0 (InAt wz w.heap.size gi s0 false) ∧ Aside0 (Below w.heap.size w wz))
      case atStart => exact ⟨0, SS, by omega, rfl, ⟨by rw [List.drop_zero]; exact HBY.out⟩, HI, HB⟩
      case round =>
        clear HI HB
        obtain ⟨i, s0, hi, rfl, HBS, HI, HB⟩ := hrel
        by_cases hlt : i < l.length
        · obtain ⟨kk, rfl⟩ : ∃ z, gk = z + 1 := ⟨gk - 1, by omega⟩
          have hlt' : (i : Int) < (l.length : Int) := by omega
          have hdr : l.drop i = rd_T40 l (i : Int) :: l.drop (i + 1) := by rw [rdO_at l i hlt]; exact List.drop_eq_getElem_cons hlt
          rw [hdr, itemsB_cons] at HBS
          clear hdr
          obtain ⟨ad, A4, c4, e1, x0, x1, x2, x3, x4, hc4, hC4⟩ := at_T40 HC.out (i : Int) (by omega) (by omega)
          subst e1
          rw [Int.toNat_natCast] at x0 x1 x2 x3 x4
          generalize hXi : rd_T40 l (i : Int) = X at x0 x1 x2 x3 x4 hc4 hC4
          have HXi := Aside0.mk hXi
          have HC4 := Aside0.mk hC4
          have Hc4 := Aside0.mk hc4
          have HX0 := Aside0.mk (fun (W : World) (hb : Below w.heap.size w W) => keepP hb x0)
          have HX1 := Aside0.mk (fun (W : World) (hb : Below w.heap.size w W) => keepP hb x1)
          have HX3 := Aside0.mk (fun (W : World) (hb : Below w.heap.size w W) => keepP hb x3)
          have HX4 := Aside0.mk (fun (W : World) (hb : Below w.heap.size w W) => keepP hb x4)
          clear x0 x1 x2 x3 x4 hc4 hC4 hXi
          have g1 := any_and255 X.f1
          have g2 := any_and65535 X.f1
          have g3 := any_and32 X.f1
          obtain ⟨p1, hp1⟩ : ∃ p, p = X.f1 % 256 := ⟨_, rfl⟩
          obtain ⟨p2, hp2⟩ : ∃ p, p = X.f1 % 65536 := ⟨_, rfl⟩
          obtain ⟨p3, hp3⟩ : ∃ p, p = X.f1 % 4294967296 := ⟨_, rfl⟩
          rw [← hp1] at g1
          rw [← hp2] at g2
          rw [← hp3] at g3
          have P1 := Aside0.mk hp1
          have P2 := Aside0.mk hp2
          have P3 := Aside0.mk hp3
          clear hp1 hp2 hp3
          obtain ⟨C, hCt⟩ : ∃ C, C = cutT X.f3 := ⟨_, rfl⟩
          have HCt := Aside0.mk hCt
          have HCs : Aside0 (C.size ≤ 255) := ⟨by rw [hCt, cutT_size]; omega⟩
          obtain ⟨m, hm⟩ : ∃ m, m = min X.f3.size 255 := ⟨_, rfl⟩
          have hmn : (if (255 : Int) < (X.f3.size : Int) then (255 : Int) else (X.f3.size : Int)) = (m : Int) := by split <;> omega
          have hm1 : (m : Int) ≤ (X.f3.size : Int) := by omega
          have hm0 : (0 : Int) ≤ (m : Int) := by omega
          have hcut : X.f3.extract 0 m = C := by rw [hCt, hm]; rfl
          clear hCt hm
          obtain ⟨T, hT⟩ : ∃ T, T = exM (ofM X.f4) := ⟨_, rfl⟩
          have HTe := Aside0.mk hT
          have HTt : Aside0 (tidyB 64 T = true) := ⟨by rw [hT]; exact tidy_exM (okM.of X.f4)⟩
          have HTl : Aside0 (T.length ≤ 1000000) := ⟨by rw [hT]; have := exM_length (ofM X.f4); omega⟩
          have HT : Aside0 (law10_Tidy.f X.f4 = some T) := ⟨by rw [hT]; rfl⟩
          clear hT
          have HIB : Aside0 (itemB X = if X.f0 = 1 then leB 1 p1 ++ (leB 2 p2 ++ leB 4 p3) else if X.f0 = 2 then leB 1 (C.size : Int) ++ bytesOf C else leB 1 (T.length : Int) ++ layL T) := ⟨by rw [P1.out, P2.out, P3.out, HCt.out, HTe.out]; rfl⟩
          rw [HXi.out] at HBS
          obtain ⟨RR, hRR⟩ : ∃ R, R = itemsB (l.drop (i + 1)) := ⟨_, rfl⟩
          rw [← hRR] at HBS
          have HRR := Aside0.mk hRR
          clear hRR
          have x0 := HX0.out _ HB.out
          by_cases hk1 : X.f0 = 1
          · rw [if_pos hk1] at HIB
            have hbs := HBS.out
            rw [HIB.out, List.append_assoc, List.append_assoc] at hbs
            obtain ⟨s1, a1, a2⟩ := rd_app 1 (by omega) (by omega) p1 (by have := P1.out; omega) (by have := P1.out; omega) s0 _ hbs
            obtain ⟨s2, a3, a4⟩ := rd_app 2 (by omega) (by omega) p2 (by have := P2.out; omega) (by have := P2.out; omega) s1 _ a2
            obtain ⟨s3, a5, a6⟩ := rd_app 4 (by omega) (by omega) p3 (by have := P3.out; omega) (by have := P3.out; omega) s2 _ a4
            have HR1 := Aside0.mk (show rdNum 1 s0 false = (p1, s1, false) from a1)
            have HR2 := Aside0.mk (show rdNum 2 s1 false = (p2, s2, false) from a3)
            have HR3 := Aside0.mk (show rdNum 4 s2 false = (p3, s3, false) from a5)
            have HB6 : Aside0 (bytesOf s3 = itemsB (l.drop (i + 1))) := ⟨a6.trans HRR.out⟩
            clear hbs a1 a2 a3 a4 a5 a6
            go_wp2_with fail
            clear x0
            refine start_ (n := 31) (S := fun w' => Below w.heap.size w w' ∧ w'.cell? ⟨(ad.add (i * 5)).block, (ad.add (i * 5)).off + 1, none⟩ = some (.int .i64 X.f1)) (ds := []) #[false, false, false, false, false, false, false, false, false, false, false, false, false, false, false, false, false, false, false, false, false, false, false, false, false, false, false, false, false, false, false] (by kernel_rfl) rfl rfl ⟨below_drew1 HB.out, (HX1.out _ (below_drew1 HB.out))⟩ (fun hHeld => ?_)
            refine pure_ (i := 0) (N := some 113) (v := ?_) (a' := ?_) #[true, false, false, false, false, false, false, false, false, false, false, false, false, false, false, false, false, false, false, false, false, false, false, false, false, false, false, false, false, false, false] rfl rfl (by kernel_rfl) (fun _ _ _ h => h) (Or.inl ⟨by rfl, ?_⟩) ?_ ?_
            rotate_left
            · intro w'
              go_simp
              with_reducible rfl
            rotate_left
            · simp only [Act.put, List.setIfInBounds_toArray, List.set_cons_zero, List.set_cons_succ, i64_w, i32_w]
              rfl
            refine pure_ (i := 2) (N := some 115) (v := ?_) (a' := ?_) #[true, false, true, false, false, false, false, false, false, false, false, false, false, false, false, false, false, false, false, false, false, false, false, false, false, false, false, false, false, false, false] rfl rfl (by kernel_rfl) (fun _ _ _ h => h) (Or.inl ⟨by rfl, ?_⟩) ?_ ?_
            rotate_left
            · intro w'
              go_simp
              with_reducible rfl
            rotate_left
            · simp only [Act.put, List.setIfInBounds_toArray, List.set_cons_zero, List.set_cons_succ, i64_w, i32_w]
              rfl
            refine pure_ (i := 3) (N := some 116) (v := ?_) (a' := ?_) #[true, false, true, true, false, false, false, false, false, false, false, false, false, false, false, false, false, false, false, false, false, false, false, false, false, false, false, false, false, false, false] rfl rfl (by kernel_rfl) (fun _ _ _ h => h) (Or.inl ⟨by rfl, ?_⟩) ?_ ?_
            rotate_left
            · intro w'
              go_simp
              with_reducible rfl
            rotate_left
            · simp only [Act.put, List.setIfInBounds_toArray, List.set_cons_zero, List.set_cons_succ, i64_w, i32_w]
              rfl
            refine pure_ (i := 4) (N := some 117) (v := ?_) (a' := ?_) #[true, false, true, true, true, false, false, false, false, false, false, false, false, false, false, false, false, false, false, false, false, false, false, false, false, false, false, false, false, false, false] rfl rfl (by kernel_rfl) (fun _ _ _ h => h) (Or.inl ⟨by rfl, ?_⟩) ?_ ?_
            rotate_left
            · intro w'
              go_simp
              with_reducible rfl
            rotate_left
            · simp only [Act.put, List.setIfInBounds_toArray, List.set_cons_zero, List.set_cons_succ, i64_w, i32_w]
              rfl
            refine pure_ (i := 5) (N := some 118) (v := ?_) (a' := ?_) #[true, false, true, true, true, true, false, false, false, false, false, false, false, false, false, false, false, false, false, false, false, false, false, false, false, false, false, false, false, false, false] rfl rfl (by kernel_rfl) (fun _ _ _ h => h) (Or.inl ⟨by rfl, ?_⟩) ?_ ?_
            rotate_left
            · intro w'
              go_simp
              with_reducible rfl
            rotate_left
            · simp only [Act.put, List.setIfInBounds_toArray, List.set_cons_zero, List.set_cons_succ, i64_w, i32_w]
              rfl
            refine take_ (i := 6) (N := some 119) (v := ?_) (a' := ?_) #[true, false, true, true, true, true, true, false, false, false, false, false, false, false, false, false, false, false, false, false, false, false, false, false, false, false, false, false, false, false, false] rfl rfl (by kernel_rfl) (fun _ _ _ h => h) (Or.inl ⟨by rfl, ?_⟩) hHeld ?_ ?_
            rotate_left
            · rintro w' ⟨s0, s1⟩
              go_simp
              with_reducible rfl
            rotate_left
            · simp only [Act.put, List.setIfInBounds_toArray, List.set_cons_zero, List.set_cons_succ, i64_w, i32_w]
              rfl
            refine pure_ (i := 7) (N := some 120) (v := ?_) (a' := ?_) #[true, false, true, true, true, true, true, true, false, false, false, false, false, false, false, false, false, false, false, false, false, false, false, false, false, false, false, false, false, false, false] rfl rfl (by kernel_rfl) (fun _ _ _ h => h) (Or.inl ⟨by rfl, ?_⟩) ?_ ?_
            rotate_left
            · intro w'
              go_simp
              with_reducible rfl
            rotate_left
            · simp only [Act.put, List.setIfInBounds_toArray, List.set_cons_zero, List.set_cons_succ, i64_w, i32_w]
              rfl
            refine one_ (i := 1) (N := some 114) #[true, true, true, true, true, true, true, true, false, false, false, false, false, false, false, false, false, false, false, false, false, false, false, false, false, false, false, false, false, false, false] rfl rfl (by kernel_rfl) (by decide) (fun K hK => ?_)
            refine goes_ Try.func19 (by kernel_rfl) rfl #[.pointer (some ⟨gi, 0, none⟩), .int .i64 1] (by rfl) rfl rfl (by simp only [List.map_toArray, List.map_cons, List.map_nil]; rfl) ?_
            with_reducible refine (in_numV 1 p1 s1 false w gi s0 false _ HR1.out hHeld.1 (HI.out.keep (below_drew1 (Below.refl _ _)))).mono ?_
            rintro e w30 ⟨rfl, hi1, ho1⟩
            refine ⟨_, rfl, ?_⟩
            refine hK.out _ _ ⟨below_only hHeld.1 ho1 HIg.out, HX1.out _ (below_only hHeld.1 ho1 HIg.out)⟩ (fun hHeld => ?_)
            clear hK K
            refine norm_ (a' := ?_) ?_ ?_
            rotate_left
            · show Act.put _ (some 114) _ = _
              simp only [Act.put, List.setIfInBounds_toArray, List.set_cons_zero, List.set_cons_succ, i64_w, i32_w]
              rfl
            refine pure_ (i := 8) (N := some 121) (v := ?_) (a' := ?_) #[true, true, true, true, true, true, true, true, true, false, false, false, false, false, false, false, false, false, false, false, false, false, false, false, false, false, false, false, false, false, false] rfl rfl (by kernel_rfl) (fun _ _ _ h => h) (Or.inl ⟨by rfl, ?_⟩) ?_ ?_
            rotate_left
            · intro w'
              go_simp
              with_reducible rfl
            rotate_left
            · simp only [Act.put, List.setIfInBounds_toArray, List.set_cons_zero, List.set_cons_succ, i64_w, i32_w]
              rfl
            refine pure_ (i := 9) (N := some 122) (v := ?_) (a' := ?_) #[true, true, true, true, true, true, true, true, true, true, false, false, false, false, false, false, false, false, false, false, false, false, false, false, false, false, false, false, false, false, false] rfl rfl (by kernel_rfl) (fun _ _ _ h => h) (Or.inl ⟨by rfl, ?_⟩) ?_ ?_
            rotate_left
            · intro w'
              go_simp
              with_reducible rfl
            rotate_left
            · simp only [Act.put, List.setIfInBounds_toArray, List.set_cons_zero, List.set_cons_succ, i64_w, i32_w]
              rfl
            refine pure_ (i := 10) (N := some 123) (v := ?_) (a' := ?_) #[true, true, true, true, true, true, true, true, true, true, true, false, false, false, false, false, false, false, false, false, false, false, false, false, false, false, false, false, false, false, false] rfl rfl (by kernel_rfl) (fun _ _ _ h => h) (Or.inl ⟨by rfl, ?_⟩) ?_ ?_
            rotate_left
            · intro w'
              go_simp
              with_reducible rfl
            rotate_left
            · simp only [Act.put, List.setIfInBounds_toArray, List.set_cons_zero, List.set_cons_succ, i64_w, i32_w]
              rfl
            refine pure_ (i := 12) (N := some 125) (v := ?_) (a' := ?_) #[true, true, true, true, true, true, true, true, true, true, true, false, true, false, false, false, false, false, false, false, false, false, false, false, false, false, false, false, false, false, false] rfl rfl (by kernel_rfl) (fun _ _ _ h => h) (Or.inl ⟨by rfl, ?_⟩) ?_ ?_
            rotate_left
            · intro w'
              go_simp
              with_reducible rfl
            rotate_left
            · simp only [Act.put, List.setIfInBounds_toArray, List.set_cons_zero, List.set_cons_succ, i64_w, i32_w]
              rfl
            refine pure_ (i := 13) (N := some 126) (v := ?_) (a' := ?_) #[true, true, true, true, true, true, true, true, true, true, true, false, true, true, false, false, false, false, false, false, false, false, false, false, false, false, false, false, false, false, false] rfl rfl (by kernel_rfl) (fun _ _ _ h => h) (Or.inl ⟨by rfl, ?_⟩) ?_ ?_
            rotate_left
            · intro w'
              go_simp
              with_reducible rfl
            rotate_left
            · simp only [Act.put, List.setIfInBounds_toArray, List.set_cons_zero, List.set_cons_succ, i64_w, i32_w]
              rfl
            refine pure_ (i := 14) (N := some 127) (v := ?_) (a' := ?_) #[true, true, true, true, true, true, true, true, true, true, true, false, true, true, true, false, false, false, false, false, false, false, false, false, false, false, false, false, false, false, false] rfl rfl (by kernel_rfl) (fun _ _ _ h => h) (Or.inl ⟨by rfl, ?_⟩) ?_ ?_
            rotate_left
            · intro w'
              go_simp
              with_reducible rfl
            rotate_left
            · simp only [Act.put, List.setIfInBounds_toArray, List.set_cons_zero, List.set_cons_succ, i64_w, i32_w]
              rfl
            refine pure_ (i := 15) (N := some 128) (v := ?_) (a' := ?_) #[true, true, true, true, true, true, true, true, true, true, true, false, true, true, true, true, false, false, false, false, false, false, false, false, false, false, false, false, false, false, false] rfl rfl (by kernel_rfl) (fun _ _ _ h => h) (Or.inl ⟨by rfl, ?_⟩) ?_ ?_
            rotate_left
            · intro w'
              go_simp
              with_reducible rfl
            rotate_left
            · simp only [Act.put, List.setIfInBounds_toArray, List.set_cons_zero, List.set_cons_succ, i64_w, i32_w]
              rfl
            refine take_ (i := 16) (N := some 129) (v := ?_) (a' := ?_) #[true, true, true, true, true, true, true, true, true, true, true, false, true, true, true, true, true, false, false, false, false, false, false, false, false, false, false, false, false, false, false] rfl rfl (by kernel_rfl) (fun _ _ _ h => h) (Or.inl ⟨by rfl, ?_⟩) hHeld ?_ ?_
            rotate_left
            · rintro w' ⟨s0, s1⟩
              go_simp
              with_reducible rfl
            rotate_left
            · simp only [Act.put, List.setIfInBounds_toArray, List.set_cons_zero, List.set_cons_succ, i64_w, i32_w]
              rfl
            refine pure_ (i := 17) (N := some 130) (v := ?_) (a' := ?_) #[true, true, true, true, true, true, true, true, true, true, true, false, true, true, true, true, true, true, false, false, false, false, false, false, false, false, false, false, false, false, false] rfl rfl (by kernel_rfl) (fun _ _ _ h => h) (Or.inl ⟨by rfl, ?_⟩) ?_ ?_
            rotate_left
            · intro w'
              go_simp
              with_reducible rfl
            rotate_left
            · simp only [Act.put, List.setIfInBounds_toArray, List.set_cons_zero, List.set_cons_succ, i64_w, i32_w]
              rfl
            refine one_ (i := 11) (N := some 124) #[true, true, true, true, true, true, true, true, true, true, true, true, true, true, true, true, true, true, false, false, false, false, false, false, false, false, false, false, false, false, false] rfl rfl (by kernel_rfl) (by decide) (fun K hK => ?_)
            refine goes_ Try.func19 (by kernel_rfl) rfl #[.pointer (some ⟨gi, 0, none⟩), .int .i64 2] (by rfl) rfl rfl (by simp only [List.map_toArray, List.map_cons, List.map_nil]; rfl) ?_
            with_reducible refine (in_numV 2 p2 s2 false w gi s1 false _ HR2.out hHeld.1 hi1).mono ?_
            rintro e w31 ⟨rfl, hi2, ho2⟩
            refine ⟨_, rfl, ?_⟩
            refine hK.out _ _ ⟨below_only hHeld.1 ho2 HIg.out, HX1.out _ (below_only hHeld.1 ho2 HIg.out)⟩ (fun hHeld => ?_)
            clear hK K
            refine norm_ (a' := ?_) ?_ ?_
            rotate_left
            · show Act.put _ (some 124) _ = _
              simp only [Act.put, List.setIfInBounds_toArray, List.set_cons_zero, List.set_cons_succ, i64_w, i32_w]
              rfl
            refine pure_ (i := 18) (N := some 131) (v := ?_) (a' := ?_) #[true, true, true, true, true, true, true, true, true, true, true, true, true, true, true, true, true, true, true, false, false, false, false, false, false, false, false, false, false, false, false] rfl rfl (by kernel_rfl) (fun _ _ _ h => h) (Or.inl ⟨by rfl, ?_⟩) ?_ ?_
            rotate_left
            · intro w'
              go_simp
              with_reducible rfl
            rotate_left
            · simp only [Act.put, List.setIfInBounds_toArray, List.set_cons_zero, List.set_cons_succ, i64_w, i32_w]
              rfl
            refine pure_ (i := 19) (N := some 132) (v := ?_) (a' := ?_) #[true, true, true, true, true, true, true, true, true, true, true, true, true, true, true, true, true, true, true, true, false, false, false, false, false, false, false, false, false, false, false] rfl rfl (by kernel_rfl) (fun _ _ _ h => h) (Or.inl ⟨by rfl, ?_⟩) ?_ ?_
            rotate_left
            · intro w'
              go_simp
              with_reducible rfl
            rotate_left
            · simp only [Act.put, List.setIfInBounds_toArray, List.set_cons_zero, List.set_cons_succ, i64_w, i32_w]
              rfl
            refine pure_ (i := 20) (N := some 133) (v := ?_) (a' := ?_) #[true, true, true, true, true, true, true, true, true, true, true, true, true, true, true, true, true, true, true, true, true, false, false, false, false, false, false, false, false, false, false] rfl rfl (by kernel_rfl) (fun _ _ _ h => h) (Or.inl ⟨by rfl, ?_⟩) ?_ ?_
            rotate_left
            · intro w'
              go_simp
              with_reducible rfl
            rotate_left
            · simp only [Act.put, List.setIfInBounds_toArray, List.set_cons_zero, List.set_cons_succ, i64_w, i32_w]
              rfl
            refine pure_ (i := 21) (N := some 134) (v := ?_) (a' := ?_) #[true, true, true, true, true, true, true, true, true, true, true, true, true, true, true, true, true, true, true, true, true, true, false, false, false, false, false, false, false, false, false] rfl rfl (by kernel_rfl) (fun _ _ _ h => h) (Or.inl ⟨by rfl, ?_⟩) ?_ ?_
            rotate_left
            · intro w'
              go_simp
              with_reducible rfl
            rotate_left
            · simp only [Act.put, List.setIfInBounds_toArray, List.set_cons_zero, List.set_cons_succ, i64_w, i32_w]
              rfl
            refine pure_ (i := 23) (N := some 136) (v := ?_) (a' := ?_) #[true, true, true, true, true, true, true, true, true, true, true, true, true, true, true, true, true, true, true, true, true, true, false, true, false, false, false, false, false, false, false] rfl rfl (by kernel_rfl) (fun _ _ _ h => h) (Or.inl ⟨by rfl, ?_⟩) ?_ ?_
            rotate_left
            · intro w'
              go_simp
              with_reducible rfl
            rotate_left
            · simp only [Act.put, List.setIfInBounds_toArray, List.set_cons_zero, List.set_cons_succ, i64_w, i32_w]
              rfl
            refine pure_ (i := 24) (N := some 137) (v := ?_) (a' := ?_) #[true, true, true, true, true, true, true, true, true, true, true, true, true, true, true, true, true, true, true, true, true, true, false, true, true, false, false, false, false, false, false] rfl rfl (by kernel_rfl) (fun _ _ _ h => h) (Or.inl ⟨by rfl, ?_⟩) ?_ ?_
            rotate_left
            · intro w'
              go_simp
              with_reducible rfl
            rotate_left
            · simp only [Act.put, List.setIfInBounds_toArray, List.set_cons_zero, List.set_cons_succ, i64_w, i32_w]
              rfl
            refine pure_ (i := 25) (N := some 138) (v := ?_) (a' := ?_) #[true, true, true, true, true, true, true, true, true, true, true, true, true, true, true, true, true, true, true, true, true, true, false, true, true, true, false, false, false, false, false] rfl rfl (by kernel_rfl) (fun _ _ _ h => h) (Or.inl ⟨by rfl, ?_⟩) ?_ ?_
            rotate_left
            · intro w'
              go_simp
              with_reducible rfl
            rotate_left
            · simp only [Act.put, List.setIfInBounds_toArray, List.set_cons_zero, List.set_cons_succ, i64_w, i32_w]
              rfl
            refine pure_ (i := 26) (N := some 139) (v := ?_) (a' := ?_) #[true, true, true, true, true, true, true, true, true, true, true, true, true, true, true, true, true, true, true, true, true, true, false, true, true, true, true, false, false, false, false] rfl rfl (by kernel_rfl) (fun _ _ _ h => h) (Or.inl ⟨by rfl, ?_⟩) ?_ ?_
            rotate_left
            · intro w'
              go_simp
              with_reducible rfl
            rotate_left
            · simp only [Act.put, List.setIfInBounds_toArray, List.set_cons_zero, List.set_cons_succ, i64_w, i32_w]
              rfl
            refine take_ (i := 27) (N := some 140) (v := ?_) (a' := ?_) #[true, true, true, true, true, true, true, true, true, true, true, true, true, true, true, true, true, true, true, true, true, true, false, true, true, true, true, true, false, false, false] rfl rfl (by kernel_rfl) (fun _ _ _ h => h) (Or.inl ⟨by rfl, ?_⟩) hHeld ?_ ?_
            rotate_left
            · rintro w' ⟨s0, s1⟩
              go_simp
              with_reducible rfl
            rotate_left
            · simp only [Act.put, List.setIfInBounds_toArray, List.set_cons_zero, List.set_cons_succ, i64_w, i32_w]
              rfl
            refine pure_ (i := 28) (N := some 141) (v := ?_) (a' := ?_) #[true, true, true, true, true, true, true, true, true, true, true, true, true, true, true, true, true, true, true, true, true, true, false, true, true, true, true, true, true, false, false] rfl rfl (by kernel_rfl) (fun _ _ _ h => h) (Or.inl ⟨by rfl, ?_⟩) ?_ ?_
            rotate_left
            · intro w'
              go_simp
              with_reducible rfl
            rotate_left
            · simp only [Act.put, List.setIfInBounds_toArray, List.set_cons_zero, List.set_cons_succ, i64_w, i32_w]
              rfl
            refine one_ (i := 22) (N := some 135) #[true, true, true, true, true, true, true, true, true, true, true, true, true, true, true, true, true, true, true, true, true, true, true, true, true, true, true, true, true, false, false] rfl rfl (by kernel_rfl) (by decide) (fun K hK => ?_)
            refine goes_ Try.func19 (by kernel_rfl) rfl #[.pointer (some ⟨gi, 0, none⟩), .int .i64 4] (by rfl) rfl rfl (by simp only [List.map_toArray, List.map_cons, List.map_nil]; rfl) ?_
            with_reducible refine (in_numV 4 p3 s3 false w gi s2 false _ HR3.out hHeld.1 hi2).mono ?_
            rintro e w32 ⟨rfl, hi3, ho3⟩
            refine ⟨_, rfl, ?_⟩
            refine hK.out _ _ ⟨below_only hHeld.1 ho3 HIg.out, HX1.out _ (below_only hHeld.1 ho3 HIg.out)⟩ (fun hHeld => ?_)
            clear hK K
            refine norm_ (a' := ?_) ?_ ?_
            rotate_left
            · show Act.put _ (some 135) _ = _
              simp only [Act.put, List.setIfInBounds_toArray, List.set_cons_zero, List.set_cons_succ, i64_w, i32_w]
              rfl
            refine pure_ (i := 29) (N := some 142) (v := ?_) (a' := ?_) #[true, true, true, true, true, true, true, true, true, true, true, true, true, true, true, true, true, true, true, true, true, true, true, true, true, true, true, true, true, true, false] rfl rfl (by kernel_rfl) (fun _ _ _ h => h) (Or.inl ⟨by rfl, ?_⟩) ?_ ?_
            rotate_left
            · intro w'
              go_simp
              with_reducible rfl
            rotate_left
            · simp only [Act.put, List.setIfInBounds_toArray, List.set_cons_zero, List.set_cons_succ, i64_w, i32_w]
              rfl
            refine pure_ (i := 30) (N := some 143) (v := ?_) (a' := ?_) #[true, true, true, true, true, true, true, true, true, true, true, true, true, true, true, true, true, true, true, true, true, true, true, true, true, true, true, true, true, true, true] rfl rfl (by kernel_rfl) (fun _ _ _ h => h) (Or.inl ⟨by rfl, ?_⟩) ?_ ?_
            rotate_left
            · intro w'
              go_simp
              with_reducible rfl
            rotate_left
            · simp only [Act.put, List.setIfInBounds_toArray, List.set_cons_zero, List.set_cons_succ, i64_w, i32_w]
              rfl
            refine done_ (by kernel_rfl) ?_
            have HB2 := Aside0.mk hHeld.1
            have HI2 := Aside0.mk hi3
            clear hHeld hi1 hi2 hi3 ho1 ho2 ho3 HB HI
            go_wp2_with fail
            go_roundg kk
            case measure => omega
            case rel => exact ⟨i + 1, s3, by omega, by go_num, HB6, HI2, HB2⟩
          · rw [if_neg hk1] at HIB
            by_cases hk2 : X.f0 = 2
            · rw [if_pos hk2] at HIB
              have hbs := HBS.out
              rw [HIB.out, List.append_assoc] at hbs
              obtain ⟨s1, a1, a2⟩ := rd_text_app C s0 HCs.out _ hbs
              have HR1 := Aside0.mk a1
              have HB6 : Aside0 (bytesOf s1 = itemsB (l.drop (i + 1))) := ⟨a2.trans HRR.out⟩
              clear hbs a1 a2
              go_wp2_with fail
              clear x0
              refine start_ (n := 16) (S := fun w' => Below w.heap.size w w' ∧ w'.cell? ⟨(ad.add (i * 5)).block, (ad.add (i * 5)).off + 3, none⟩ = some (.string X.f3)) (ds := []) #[false, false, false, false, false, false, false, false, false, false, false, false, false, false, false, false] (by kernel_rfl) rfl rfl ⟨below_drew1 HB.out, (HX3.out _ (below_drew1 HB.out))⟩ (fun hHeld => ?_)
              refine pure_ (i := 0) (N := some 146) (v := ?_) (a' := ?_) #[true, false, false, false, false, false, false, false, false, false, false, false, false, false, false, false] rfl rfl (by kernel_rfl) (fun _ _ _ h => h) (Or.inl ⟨by rfl, ?_⟩) ?_ ?_
              rotate_left
              · intro w'
                go_simp
                with_reducible rfl
              rotate_left
              · simp only [Act.put, List.setIfInBounds_toArray, List.set_cons_zero, List.set_cons_succ, i64_w, i32_w]
                rfl
              refine pure_ (i := 2) (N := some 148) (v := ?_) (a' := ?_) #[true, false, true, false, false, false, false, false, false, false, false, false, false, false, false, false] rfl rfl (by kernel_rfl) (fun _ _ _ h => h) (Or.inl ⟨by rfl, ?_⟩) ?_ ?_
              rotate_left
              · intro w'
                go_simp
                with_reducible rfl
              rotate_left
              · simp only [Act.put, List.setIfInBounds_toArray, List.set_cons_zero, List.set_cons_succ, i64_w, i32_w]
                rfl
              refine pure_ (i := 3) (N := some 149) (v := ?_) (a' := ?_) #[true, false, true, true, false, false, false, false, false, false, false, false, false, false, false, false] rfl rfl (by kernel_rfl) (fun _ _ _ h => h) (Or.inl ⟨by rfl, ?_⟩) ?_ ?_
              rotate_left
              · intro w'
                go_simp
                with_reducible rfl
              rotate_left
              · simp only [Act.put, List.setIfInBounds_toArray, List.set_cons_zero, List.set_cons_succ, i64_w, i32_w]
                rfl
              refine pure_ (i := 4) (N := some 150) (v := ?_) (a' := ?_) #[true, false, true, true, true, false, false, false, false, false, false, false, false, false, false, false] rfl rfl (by kernel_rfl) (fun _ _ _ h => h) (Or.inl ⟨by rfl, ?_⟩) ?_ ?_
              rotate_left
              · intro w'
                go_simp
                with_reducible rfl
              rotate_left
              · simp only [Act.put, List.setIfInBounds_toArray, List.set_cons_zero, List.set_cons_succ, i64_w, i32_w]
                rfl
              refine pure_ (i := 5) (N := some 151) (v := ?_) (a' := ?_) #[true, false, true, true, true, true, false, false, false, false, false, false, false, false, false, false] rfl rfl (by kernel_rfl) (fun _ _ _ h => h) (Or.inl ⟨by rfl, ?_⟩) ?_ ?_
              rotate_left
              · intro w'
                go_simp
                with_reducible rfl
              rotate_left
              · simp only [Act.put, List.setIfInBounds_toArray, List.set_cons_zero, List.set_cons_succ, i64_w, i32_w]
                rfl
              refine pure_ (i := 7) (N := some 153) (v := ?_) (a' := ?_) #[true, false, true, true, true, true, false, true, false, false, false, false, false, false, false, false] rfl rfl (by kernel_rfl) (fun _ _ _ h => h) (Or.inl ⟨by rfl, ?_⟩) ?_ ?_
              rotate_left
              · intro w'
                go_simp
                with_reducible rfl
              rotate_left
              · simp only [Act.put, List.setIfInBounds_toArray, List.set_cons_zero, List.set_cons_succ, i64_w, i32_w]
                rfl
              refine pure_ (i := 8) (N := some 154) (v := ?_) (a' := ?_) #[true, false, true, true, true, true, false, true, true, false, false, false, false, false, false, false] rfl rfl (by kernel_rfl) (fun _ _ _ h => h) (Or.inl ⟨by rfl, ?_⟩) ?_ ?_
              rotate_left
              · intro w'
                go_simp
                with_reducible rfl
              rotate_left
              · simp only [Act.put, List.setIfInBounds_toArray, List.set_cons_zero, List.set_cons_succ, i64_w, i32_w]
                rfl
              refine pure_ (i := 9) (N := some 155) (v := ?_) (a' := ?_) #[true, false, true, true, true, true, false, true, true, true, false, false, false, false, false, false] rfl rfl (by kernel_rfl) (fun _ _ _ h => h) (Or.inl ⟨by rfl, ?_⟩) ?_ ?_
              rotate_left
              · intro w'
                go_simp
                with_reducible rfl
              rotate_left
              · simp only [Act.put, List.setIfInBounds_toArray, List.set_cons_zero, List.set_cons_succ, i64_w, i32_w]
                rfl
              refine pure_ (i := 10) (N := some 156) (v := ?_) (a' := ?_) #[true, false, true, true, true, true, false, true, true, true, true, false, false, false, false, false] rfl rfl (by kernel_rfl) (fun _ _ _ h => h) (Or.inl ⟨by rfl, ?_⟩) ?_ ?_
              rotate_left
              · intro w'
                go_simp
                with_reducible rfl
              rotate_left
              · simp only [Act.put, List.setIfInBounds_toArray, List.set_cons_zero, List.set_cons_succ, i64_w, i32_w]
                rfl
              refine take_ (i := 6) (N := some 152) (v := ?_) (a' := ?_) #[true, false, true, true, true, true, true, true, true, true, true, false, false, false, false, false] rfl rfl (by kernel_rfl) (fun _ _ _ h => h) (Or.inl ⟨by rfl, ?_⟩) hHeld ?_ ?_
              rotate_left
              · rintro w' ⟨s0, s1⟩
                go_simp
                with_reducible rfl
              rotate_left
              · simp only [Act.put, List.setIfInBounds_toArray, List.set_cons_zero, List.set_cons_succ, i64_w, i32_w]
                rfl
              refine take_ (i := 11) (N := some 157) (v := ?_) (a' := ?_) #[true, false, true, true, true, true, true, true, true, true, true, true, false, false, false, false] rfl rfl (by kernel_rfl) (fun _ _ _ h => h) (Or.inl ⟨by rfl, ?_⟩) hHeld ?_ ?_
              rotate_left
              · rintro w' ⟨s0, s1⟩
                go_simp
                with_reducible rfl
              rotate_left
              · simp only [Act.put, List.setIfInBounds_toArray, List.set_cons_zero, List.set_cons_succ, i64_w, i32_w]
                rfl
              refine pure_ (i := 12) (N := some 158) (v := ?_) (a' := ?_) #[true, false, true, true, true, true, true, true, true, true, true, true, true, false, false, false] rfl rfl (by kernel_rfl) (fun _ _ _ h => h) (Or.inl ⟨by rfl, ?_⟩) ?_ ?_
              rotate_left
              · intro w'
                go_simp
                with_reducible rfl
              rotate_left
              · simp only [Act.put, List.setIfInBounds_toArray, List.set_cons_zero, List.set_cons_succ, i64_w, i32_w]
                rfl
              refine pure_ (i := 13) (N := some 159) (v := ?_) (a' := ?_) #[true, false, true, true, true, true, true, true, true, true, true, true, true, true, false, false] rfl rfl (by kernel_rfl) (fun _ _ _ h => h) (Or.inl ⟨by rfl, ?_⟩) ?_ ?_
              rotate_left
              · intro w'
                go_simp
                with_reducible rfl
              rotate_left
              · simp only [Act.put, List.setIfInBounds_toArray, List.set_cons_zero, List.set_cons_succ, i64_w, i32_w]
                rfl
              refine pure_ (i := 14) (N := some 160) (v := ?_) (a' := ?_) #[true, false, true, true, true, true, true, true, true, true, true, true, true, true, true, false] rfl rfl (by kernel_rfl) (fun _ _ _ h => h) (Or.inl ⟨by rfl, ?_⟩) ?_ ?_
              rotate_left
              · intro w'
                go_simp
                with_reducible rfl
              rotate_left
              · simp only [Act.put, List.setIfInBounds_toArray, List.set_cons_zero, List.set_cons_succ, i64_w, i32_w]
                rfl
              refine one_ (i := 1) (N := some 147) #[true, true, true, true, true, true, true, true, true, true, true, true, true, true, true, false] rfl rfl (by kernel_rfl) (by decide) (fun K hK => ?_)
              refine goes_ Try.func30 (by kernel_rfl) rfl #[.pointer (some ⟨gi, 0, none⟩)] (by rfl) rfl rfl (by simp only [List.map_toArray, List.map_cons, List.map_nil]; rfl) ?_
              with_reducible refine (in_textV C s1 false w gi s0 false _ HR1.out hHeld.1 (HI.out.keep (below_drew1 (Below.refl _ _)))).mono ?_
              rintro e w30 ⟨rfl, hi1, ho1⟩
              refine ⟨_, rfl, ?_⟩
              refine hK.out _ _ ⟨below_only hHeld.1 ho1 HIg.out, HX3.out _ (below_only hHeld.1 ho1 HIg.out)⟩ (fun hHeld => ?_)
              clear hK K
              refine norm_ (a' := ?_) ?_ ?_
              rotate_left
              · show Act.put _ (some 147) _ = _
                simp only [Act.put, List.setIfInBounds_toArray, List.set_cons_zero, List.set_cons_succ, i64_w, i32_w]
                rfl
              refine pure_ (i := 15) (N := some 161) (v := ?_) (a' := ?_) #[true, true, true, true, true, true, true, true, true, true, true, true, true, true, true, true] rfl rfl (by kernel_rfl) (fun _ _ _ h => h) (Or.inl ⟨by rfl, ?_⟩) ?_ ?_
              rotate_left
              · intro w'
                go_simp
                with_reducible rfl
              rotate_left
              · simp only [Act.put, List.setIfInBounds_toArray, List.set_cons_zero, List.set_cons_succ, i64_w, i32_w]
                rfl
              refine done_ (by kernel_rfl) ?_
              have HB2 := Aside0.mk hHeld.1
              have HI2 := Aside0.mk hi1
              clear hHeld hi1 ho1 HB HI
              go_wp2_with fail
              go_roundg kk
              case measure => omega
              case rel => exact ⟨i + 1, s1, by omega, by go_num, HB6, HI2, HB2⟩
            · rw [if_neg hk2] at HIB
              have hbs := HBS.out
              rw [HIB.out, List.append_assoc] at hbs
              have hTr := (tidy_ref 64 T).1 HTt.out
              obtain ⟨s9, s1, a1, a2, a3, a4⟩ := rd_ext_app T (by omega) (fun x hx => (hTr.2.1 x hx).1) s0 _ hbs
              have HR1 := Aside0.mk a3
              have HV1 : Aside0 ((rdEs (rdNum 1 s0 false).1.toNat (rdNum 1 s0 false).2.1 (rdNum 1 s0 false).2.2).2.2 = false → extent_Valid.f (2 * T.length + 1) (rdEs (rdNum 1 s0 false).1.toNat (rdNum 1 s0 false).2.1 (rdNum 1 s0 false).2.2).1 64 = some true) := ⟨fun _ => by
                rw [a1]
                simp only [Int.toNat_natCast]
                rw [a2]
                simp only
                rw [valid_tidy 64 (by decide) T HTl.out _ (by omega), HTt.out]⟩
              have HB6 : Aside0 (bytesOf s1 = itemsB (l.drop (i + 1))) := ⟨a4.trans HRR.out⟩
              clear hbs a1 a2 a3 a4 hTr
              go_wp2_with fail
              clear x0
              refine start_ (n := 10) (S := fun w' => Below w.heap.size w w' ∧ w'.cell? ⟨(ad.add (i * 5)).block, (ad.add (i * 5)).off + 4, none⟩ = some (.slice A4 X.f4.length c4)) (ds := []) #[false, false, false, false, false, false, false, false, false, false] (by kernel_rfl) rfl rfl ⟨below_drew1 HB.out, (HX4.out _ (below_drew1 HB.out))⟩ (fun hHeld => ?_)
              refine pure_ (i := 0) (N := some 101) (v := ?_) (a' := ?_) #[true, false, false, false, false, false, false, false, false, false] rfl rfl (by kernel_rfl) (fun _ _ _ h => h) (Or.inl ⟨by rfl, ?_⟩) ?_ ?_
              rotate_left
              · intro w'
                go_simp
                with_reducible rfl
              rotate_left
              · simp only [Act.put, List.setIfInBounds_toArray, List.set_cons_zero, List.set_cons_succ, i64_w, i32_w]
                rfl
              refine pure_ (i := 2) (N := some 103) (v := ?_) (a' := ?_) #[true, false, true, false, false, false, false, false, false, false] rfl rfl (by kernel_rfl) (fun _ _ _ h => h) (Or.inl ⟨by rfl, ?_⟩) ?_ ?_
              rotate_left
              · intro w'
                go_simp
                with_reducible rfl
              rotate_left
              · simp only [Act.put, List.setIfInBounds_toArray, List.set_cons_zero, List.set_cons_succ, i64_w, i32_w]
                rfl
              refine pure_ (i := 3) (N := some 104) (v := ?_) (a' := ?_) #[true, false, true, true, false, false, false, false, false, false] rfl rfl (by kernel_rfl) (fun _ _ _ h => h) (Or.inl ⟨by rfl, ?_⟩) ?_ ?_
              rotate_left
              · intro w'
                go_simp
                with_reducible rfl
              rotate_left
              · simp only [Act.put, List.setIfInBounds_toArray, List.set_cons_zero, List.set_cons_succ, i64_w, i32_w]
                rfl
              refine pure_ (i := 4) (N := some 105) (v := ?_) (a' := ?_) #[true, false, true, true, true, false, false, false, false, false] rfl rfl (by kernel_rfl) (fun _ _ _ h => h) (Or.inl ⟨by rfl, ?_⟩) ?_ ?_
              rotate_left
              · intro w'
                go_simp
                with_reducible rfl
              rotate_left
              · simp only [Act.put, List.setIfInBounds_toArray, List.set_cons_zero, List.set_cons_succ, i64_w, i32_w]
                rfl
              refine pure_ (i := 5) (N := some 106) (v := ?_) (a' := ?_) #[true, false, true, true, true, true, false, false, false, false] rfl rfl (by kernel_rfl) (fun _ _ _ h => h) (Or.inl ⟨by rfl, ?_⟩) ?_ ?_
              rotate_left
              · intro w'
                go_simp
                with_reducible rfl
              rotate_left
              · simp only [Act.put, List.setIfInBounds_toArray, List.set_cons_zero, List.set_cons_succ, i64_w, i32_w]
                rfl
              refine take_ (i := 6) (N := some 107) (v := ?_) (a' := ?_) #[true, false, true, true, true, true, true, false, false, false] rfl rfl (by kernel_rfl) (fun _ _ _ h => h) (Or.inl ⟨by rfl, ?_⟩) hHeld ?_ ?_
              rotate_left
              · rintro w' ⟨s0, s1⟩
                go_simp
                with_reducible rfl
              rotate_left
              · simp only [Act.put, List.setIfInBounds_toArray, List.set_cons_zero, List.set_cons_succ, i64_w, i32_w]
                rfl
              refine one_ (i := 1) (N := some 102) #[true, true, true, true, true, true, true, false, false, false] rfl rfl (by kernel_rfl) (by decide) (fun K hK => ?_)
              refine goes_ Try.func32 (by kernel_rfl) rfl #[.pointer (some ⟨gi, 0, none⟩)] (by rfl) rfl rfl (by simp only [List.map_toArray, List.map_cons, List.map_nil]; rfl) ?_
              with_reducible refine (in_extents' _ true T s1 false w gi s0 false _ HR1.out hHeld.1 (HI.out.keep (below_drew1 (Below.refl _ _))) HV1.out).mono ?_
              rintro e w30 ⟨u, rfl, hu, hi1, ho1⟩
              refine ⟨_, rfl, ?_⟩
              refine hK.out _ _ ⟨below_only hHeld.1 ho1 HIg.out, HX4.out _ (below_only hHeld.1 ho1 HIg.out)⟩ (fun hHeld => ?_)
              clear hK K
              refine norm_ (a' := ?_) ?_ ?_
              rotate_left
              · show Act.put _ (some 102) _ = _
                simp only [Act.put, List.setIfInBounds_toArray, List.set_cons_zero, List.set_cons_succ, i64_w, i32_w]
                rfl
              refine one_ (i := 7) (N := some 108) #[true, true, true, true, true, true, true, true, false, false] rfl rfl (by kernel_rfl) (by decide) (fun K hK => ?_)
              refine goes_ Try.func38 (by kernel_rfl) rfl #[.slice A4 X.f4.length c4] (by rfl) rfl rfl (by simp only [List.map_toArray, List.map_cons, List.map_nil]; rfl) ?_
              with_reducible refine (law10_Tidy.calls A4 c4 X.f4 T _ (Kd.C_below HC4.out hHeld.1) Hc4.out HT.out).mono ?_
              rintro e w31 ⟨v, rfl, hv, hb⟩
              refine ⟨_, rfl, ?_⟩
              replace hi1 := hi1.keep hb
              replace hu := Kd.R_below hu hb
              refine hK.out _ _ ⟨below_step hHeld.1 hb, HX4.out _ (below_step hHeld.1 hb)⟩ (fun hHeld => ?_)
              clear hK K
              refine norm_ (a' := ?_) ?_ ?_
              rotate_left
              · show Act.put _ (some 108) _ = _
                simp only [Act.put, List.setIfInBounds_toArray, List.set_cons_zero, List.set_cons_succ, i64_w, i32_w]
                rfl
              refine one_ (i := 8) (N := some 109) #[true, true, true, true, true, true, true, true, true, false] rfl rfl (by kernel_rfl) (by decide) (fun K hK => ?_)
              refine goes_ Try.func34 (by kernel_rfl) rfl #[u, v] (by rfl) rfl rfl (by simp only [List.map_toArray, List.map_cons, List.map_nil]; rfl) ?_
              with_reducible refine (same_E u v T _ hu hv HTl.out).mono ?_
              rintro e w32 ⟨rfl, hb2⟩
              refine ⟨_, rfl, ?_⟩
              replace hi1 := hi1.keep hb2
              refine hK.out _ _ ⟨below_step hHeld.1 hb2, HX4.out _ (below_step hHeld.1 hb2)⟩ (fun hHeld => ?_)
              clear hK K
              refine norm_ (a' := ?_) ?_ ?_
              rotate_left
              · show Act.put _ (some 109) _ = _
                simp only [Act.put, List.setIfInBounds_toArray, List.set_cons_zero, List.set_cons_succ, i64_w, i32_w]
                rfl
              refine pure_ (i := 9) (N := some 110) (v := ?_) (a' := ?_) #[true, true, true, true, true, true, true, true, true, true] rfl rfl (by kernel_rfl) (fun _ _ _ h => h) (Or.inl ⟨by rfl, ?_⟩) ?_ ?_
              rotate_left
              · intro w'
                go_simp
                with_reducible rfl
              rotate_left
              · simp only [Act.put, List.setIfInBounds_toArray, List.set_cons_zero, List.set_cons_succ, i64_w, i32_w]
                rfl
              refine done_ (by kernel_rfl) ?_
              have HB2 := Aside0.mk hHeld.1
              have HI2 := Aside0.mk hi1
              clear hHeld hi1 ho1 HB HI
              go_wp2_with fail
              go_roundg kk
              case measure => omega
              case rel => exact ⟨i + 1, s1, by omega, by go_num, HB6, HI2, HB2⟩
        · obtain rfl : i = l.length := by omega
          have hlt' : ¬ (l.length : Int) < (l.length : Int) := by omega
          rw [List.drop_length] at HBS
          obtain rfl := nix_bytes HBS.out
          clear HBS
          go_wp2_with fail
          refine (in_done _ gi _ _ _ HI.out).mono ?_
          rw [show doneV nix false = 0 by unfold doneV; rw [if_neg Bool.false_ne_true, if_pos ((nix_iff nix).2 rfl)]]
          rintro e9 w42 ⟨rfl, hw⟩
          subst w42
          go_wp2_with fail
          refine (in_left _ gi _ _ _ HI.out).mono ?_
          rintro e9 w42 ⟨rfl, hw⟩
          subst w42
          go_wp2_with fail
          go_ret
          exact ⟨rfl, HB.out⟩
theorem walk (A : Option Addr) (c : Nat) (l : List OP) (w : World) (hc : l.length ≤ c) (hC : Kd.C k40 w A l.length l) :
    Calls Try.prog 7 #[.slice A l.length c] w fun e w' => e = .returned (.bool true) ∧ Below w.heap.size w w' := main A c l w hC hc
end Go.Proofs.Ytacmfpkmcefcfaa.WOctetsBack
end
