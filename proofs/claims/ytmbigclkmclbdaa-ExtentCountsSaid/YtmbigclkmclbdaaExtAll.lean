/- What the functions on extents come to, as lists of units. No memory. -/
import Derived.Test.YtmbigclkmclbdaaMapsAll
import Derived.Test.YtmbigclkmclbdaaSpanB
import Derived.Test.YtmbigclkmclbdaaAx0
import Derived.Test.YtmbigclkmclbdaaAx10
import Derived.Test.YtmbigclkmclbdaaAx11
import Derived.Test.YtmbigclkmclbdaaAx12
import Derived.Test.YtmbigclkmclbdaaAx13
import Derived.Test.YtmbigclkmclbdaaAx14
import Derived.Test.YtmbigclkmclbdaaAx16
import Derived.Test.YtmbigclkmclbdaaAx17
import Derived.Test.YtmbigclkmclbdaaAx4
import Derived.Test.YtmbigclkmclbdaaAx5
import Derived.Test.YtmbigclkmclbdaaAx6
namespace Go.Proofs.Ytmbigclkmclbdaa.ExtP
open Go.RowKit Go.Proofs.YtmbigclkmclbdaaW.PrintWords Go.Proofs.YtmbigclkmclbdaaW.PrintLast Go.Proofs.YtmbigclkmclbdaaW.PrintMore Go.Proofs.Ytmbigclkmclbdaa.A Go.Proofs.Ytmbigclkmclbdaa.Hand Go.Proofs.Ytmbigclkmclbdaa.Maps
set_option linter.unusedVariables false
set_option linter.unusedSimpArgs false
abbrev EX := S29
/-- Is an extent one with the next one? -/
def oneP (a b : EX) : Prop := a.f0 + a.f1 = b.f0 ∧ (a.f2 = 0 ∧ b.f2 = 0 ∨ 0 < a.f2 ∧ 0 < b.f2 ∧ b.f2 = a.f2 + a.f1)
instance (a b : EX) : Decidable (oneP a b) := by unfold oneP; infer_instance
/-- One more, on a list that lies turned round. -/
def addR : List EX → EX → List EX
  | [], x => [x]
  | a :: r, x => if oneP a x then ⟨a.f0, a.f1 + x.f1, a.f2⟩ :: r else x :: a :: r
/-- The blocks of an extent, one by one. -/
def unA (f id : Int) (n : Nat) : List EX := (List.range n).map fun (i : Nat) => ⟨f + i, 1, if id = 0 then 0 else id + i⟩
def un (x : EX) : List EX := unA x.f0 x.f2 x.f1.toNat
theorem unA_succ (f id : Int) (n : Nat) : unA f id (n + 1) = unA f id n ++ [⟨f + n, 1, if id = 0 then 0 else id + n⟩] := by
  unfold unA; rw [List.range_succ, List.map_append]; rfl
theorem unA_add (f id : Int) (h : 0 ≤ id) (n k : Nat) : unA f id (n + k) = unA f id n ++ unA (f + n) (if id = 0 then 0 else id + n) k := by
  induction k with
  | zero => show unA f id n = unA f id n ++ []; rw [List.append_nil]
  | succ k ih =>
    rw [← Nat.add_assoc, unA_succ, ih, unA_succ, List.append_assoc]
    congr 3
    by_cases h0 : id = 0
    · subst h0; simp; omega
    · rw [if_neg h0, if_neg h0, if_neg (by omega)]
      simp; omega
theorem split_n (r : List EX) (f id : Int) (hid : 0 ≤ id) : ∀ n : Nat, (unA f id (n + 1)).foldl addR r = addR r ⟨f, (n : Int) + 1, id⟩
  | 0 => by
    unfold unA
    simp
    by_cases h : id = 0
    · rw [if_pos h, h]
    · rw [if_neg h]
  | n + 1 => by
    rw [unA_succ, List.foldl_append, split_n r f id hid n]
    show addR (addR r _) _ = _
    have hc : (((n + 1 : Nat) : Int) + 1) = (n : Int) + 1 + 1 := by omega
    rw [hc]
    cases r with
    | nil =>
      show (if oneP _ _ then _ else _) = _
      rw [if_pos ⟨by simp, by
        simp only
        by_cases h : id = 0
        · left; exact ⟨h, by rw [if_pos h]⟩
        · right; exact ⟨by omega, by rw [if_neg h]; omega, by rw [if_neg h]; simp⟩⟩]
      rfl
    | cons a r =>
      show addR (if oneP a _ then _ else _) _ = (if oneP a _ then _ else _)
      have hiff : oneP a ⟨f, (n : Int) + 1, id⟩ ↔ oneP a ⟨f, (n : Int) + 1 + 1, id⟩ := Iff.rfl
      by_cases h1 : oneP a ⟨f, (n : Int) + 1, id⟩
      · rw [if_pos h1, if_pos (hiff.1 h1)]
        obtain ⟨h2, h3⟩ := h1
        simp only at h2 h3
        show (if oneP _ _ then _ else _) = _
        rw [if_pos ⟨by simp only; push_cast; omega, by
          simp only
          by_cases h : id = 0
          · left; rw [if_pos h]; exact ⟨by omega, rfl⟩
          · right; rw [if_neg h]; rcases h3 with h3 | h3 <;> exact ⟨by omega, by omega, by omega⟩⟩]
        simp only
        rw [Int.add_assoc a.f1]
      · rw [if_neg h1, if_neg (fun h => h1 (hiff.2 h))]
        show (if oneP _ _ then _ else _) = _
        rw [if_pos ⟨by simp, by
          simp only
          by_cases h : id = 0
          · left; exact ⟨h, by rw [if_pos h]⟩
          · right; exact ⟨by omega, by rw [if_neg h]; omega, by rw [if_neg h]; simp⟩⟩]
theorem split (r : List EX) (x : EX) (h1 : 1 ≤ x.f1) (h2 : 0 ≤ x.f2) : (un x).foldl addR r = addR r x := by
  obtain ⟨f, n, id⟩ := x
  obtain ⟨m, rfl⟩ : ∃ m : Nat, n = (m : Int) + 1 := ⟨(n - 1).toNat, by simp only at h1; omega⟩
  unfold un
  simp only
  rw [show ((m : Int) + 1).toNat = m + 1 by omega]
  exact split_n r f id h2 m
def Ul (l : List EX) : List EX := l.flatMap un
theorem split_l : ∀ (xs r : List EX), (∀ x ∈ xs, alone x) → (Ul xs).foldl addR r = xs.foldl addR r
  | [], r, _ => rfl
  | x :: xs, r, h => by
    have hx := h x List.mem_cons_self
    show (un x ++ Ul xs).foldl addR r = _
    rw [List.foldl_append, split r x hx.2.1 hx.2.2.2.1]
    exact split_l xs _ (fun y hy => h y (List.mem_cons_of_mem _ hy))
/-- What a list of units comes to. -/
def build (us : List EX) : List EX := (us.foldl addR []).reverse
theorem alone_merge {a x : EX} (ha : alone a) (hx : alone x) (h : oneP a x) : alone ⟨a.f0, a.f1 + x.f1, a.f2⟩ := by
  obtain ⟨a1, a2, a3, a4, a5⟩ := ha
  obtain ⟨x1, x2, x3, x4, x5⟩ := hx
  obtain ⟨h1, h2⟩ := h
  unfold alone
  simp only
  omega
theorem addR_alone {r : List EX} {x : EX} (hr : ∀ y ∈ r, alone y) (hx : alone x) : ∀ y ∈ addR r x, alone y := by
  cases r with
  | nil => intro y hy; simp [addR] at hy; subst hy; exact hx
  | cons a r =>
    show ∀ y ∈ (if oneP a x then _ else _), _
    split
    · rename_i h
      intro y hy
      rcases List.mem_cons.1 hy with rfl | hy
      · exact alone_merge (hr a List.mem_cons_self) hx h
      · exact hr y (List.mem_cons_of_mem _ hy)
    · intro y hy
      rcases List.mem_cons.1 hy with rfl | hy
      · exact hx
      · exact hr y hy
theorem fold_alone : ∀ (xs r : List EX), (∀ y ∈ r, alone y) → (∀ x ∈ xs, alone x) → ∀ y ∈ xs.foldl addR r, alone y
  | [], r, hr, _ => hr
  | x :: xs, r, hr, h => fold_alone xs _ (addR_alone hr (h x List.mem_cons_self)) (fun y hy => h y (List.mem_cons_of_mem _ hy))
theorem build_alone (xs : List EX) (h : ∀ x ∈ xs, alone x) : ∀ y ∈ build xs, alone y := fun y hy =>
  fold_alone xs [] (fun _ h => by cases h) h y (List.mem_reverse.1 hy)
theorem Ul_append (a b : List EX) : Ul (a ++ b) = Ul a ++ Ul b := by unfold Ul; rw [List.flatMap_append]
theorem Ul_one (x : EX) : Ul [x] = un x := by unfold Ul; simp
theorem un_merge {a x : EX} (ha : alone a) (hx : alone x) (h : oneP a x) : un ⟨a.f0, a.f1 + x.f1, a.f2⟩ = un a ++ un x := by
  obtain ⟨a1, a2, a3, a4, a5⟩ := ha
  obtain ⟨x1, x2, x3, x4, x5⟩ := hx
  obtain ⟨h1, h2⟩ := h
  unfold un
  simp only
  rw [show (a.f1 + x.f1).toNat = a.f1.toNat + x.f1.toNat by omega, unA_add _ _ a4]
  congr 2
  · rw [← h1]; omega
  · by_cases h0 : a.f2 = 0
    · rw [if_pos h0]; omega
    · rw [if_neg h0]; omega
theorem Ul_add {r : List EX} {x : EX} (hr : ∀ y ∈ r, alone y) (hx : alone x) : Ul (addR r x).reverse = Ul r.reverse ++ un x := by
  cases r with
  | nil => show Ul [x] = Ul [] ++ un x; rw [Ul_one]; rfl
  | cons a r =>
    show Ul (if oneP a x then _ else _ : List EX).reverse = _
    split
    · rename_i h
      rw [List.reverse_cons, List.reverse_cons, Ul_append, Ul_append, Ul_one, Ul_one, un_merge (hr a List.mem_cons_self) hx h, List.append_assoc]
    · rw [List.reverse_cons (a := x), Ul_append, Ul_one]
theorem Ul_fold : ∀ (xs r : List EX), (∀ y ∈ r, alone y) → (∀ x ∈ xs, alone x) → Ul (xs.foldl addR r).reverse = Ul r.reverse ++ Ul xs
  | [], r, _, _ => by show _ = _ ++ []; rw [List.append_nil]; rfl
  | x :: xs, r, hr, h => by
    have hx := h x List.mem_cons_self
    show Ul (xs.foldl addR (addR r x)).reverse = _
    rw [Ul_fold xs _ (addR_alone hr hx) (fun y hy => h y (List.mem_cons_of_mem _ hy)), Ul_add hr hx, List.append_assoc]; rfl
theorem Ul_build (xs : List EX) (h : ∀ x ∈ xs, alone x) : Ul (build xs) = Ul xs := by
  have := Ul_fold xs [] (fun _ h => by cases h) h
  exact this
/-- Units: their blocks are themselves. -/
def isU (x : EX) : Prop := x.f1 = 1 ∧ alone x
theorem un_unit {x : EX} (h : isU x) : un x = [x] := by
  obtain ⟨f, n, id⟩ := x
  obtain ⟨h1, h2⟩ := h
  simp only at h1
  subst h1
  unfold un unA
  simp
  intro h; exact h.symm
theorem Ul_units : ∀ us : List EX, (∀ x ∈ us, isU x) → Ul us = us
  | [], _ => rfl
  | x :: us, h => by
    show un x ++ Ul us = _
    rw [un_unit (h x List.mem_cons_self), Ul_units us (fun y hy => h y (List.mem_cons_of_mem _ hy))]; rfl
theorem un_isU {x : EX} (h : alone x) : ∀ u ∈ un x, isU u := by
  obtain ⟨a1, a2, a3, a4, a5⟩ := h
  intro u hu
  unfold un unA at hu
  obtain ⟨i, hi, rfl⟩ := List.mem_map.1 hu
  have := List.mem_range.1 hi
  refine ⟨rfl, ?_⟩
  unfold alone
  simp only
  split <;> omega
theorem Ul_isU (l : List EX) (h : ∀ x ∈ l, alone x) : ∀ u ∈ Ul l, isU u := by
  intro u hu
  unfold Ul at hu
  obtain ⟨x, hx, hu⟩ := List.mem_flatMap.1 hu
  exact un_isU (h x hx) u hu
/-- The units of a map, from its beginning. -/
def units (m : List Int) (k : Nat) : List EX := (List.range k).flatMap fun (j : Nat) => if m.getD j 0 < 0 then [] else [⟨(j : Int), 1, m.getD j 0⟩]
theorem units_succ (m : List Int) (k : Nat) : units m (k + 1) = units m k ++ (if m.getD k 0 < 0 then [] else [⟨(k : Int), 1, m.getD k 0⟩]) := by
  unfold units; rw [List.range_succ, List.flatMap_append]; simp
theorem units_isU {m : List Int} (hm : okM m) {k : Nat} (hk : k ≤ 64) : ∀ u ∈ units m k, isU u := by
  intro u hu
  unfold units at hu
  obtain ⟨j, hj, hu⟩ := List.mem_flatMap.1 hu
  have hj := List.mem_range.1 hj
  have hb := hm.2 j
  split at hu
  · cases hu
  · simp only [List.mem_singleton] at hu
    subst hu
    refine ⟨rfl, ?_⟩
    unfold alone
    simp only
    omega
/-- What is known of the last extent. -/
def lastOk (m : List Int) (k : Nat) (r : List EX) : Prop := ∀ a r', r = a :: r' → a.f0 + a.f1 ≤ k ∧ 0 ≤ a.f2 ∧ (a.f0 + a.f1 = k → 0 < k ∧ 0 ≤ m.getD (k - 1) 0 ∧ (a.f2 = 0 ↔ m.getD (k - 1) 0 = 0) ∧ (0 < a.f2 → a.f2 + a.f1 = m.getD (k - 1) 0 + 1))
theorem ex_units {m : List Int} (hm : okM m) : ∀ k : Nat, k ≤ 64 → exN m k = ((units m k).foldl addR []).reverse ∧ lastOk m k ((units m k).foldl addR []) ∧ (0 < k → 0 ≤ m.getD (k - 1) 0 → ∃ a r', (units m k).foldl addR [] = a :: r' ∧ a.f0 + a.f1 = k)
  | 0, _ => ⟨rfl, (fun a r' h => by cases h), (fun h => by omega)⟩
  | k + 1, hk => by
    obtain ⟨h1, h2, h3⟩ := ex_units hm k (by omega)
    rw [exN_succ, units_succ, List.foldl_append, h1]
    have hb := hm.2 k
    unfold exStep
    by_cases h0 : m.getD k 0 < 0
    · rw [if_pos h0, if_pos h0]
      refine ⟨rfl, fun a r' h => ?_, fun _ h => ?_⟩
      · have := h2 a r' h
        exact ⟨by push_cast; omega, this.2.1, fun he => by push_cast at he; omega⟩
      · simp only [Nat.add_sub_cancel] at h; omega
    rw [if_neg h0, if_neg h0]
    show _ ∧ lastOk m (k + 1) (addR ((units m k).foldl addR []) _) ∧ _
    generalize (units m k).foldl addR [] = r at *
    have hfold : List.foldl addR r [(⟨(k : Int), 1, m.getD k 0⟩ : EX)] = addR r ⟨(k : Int), 1, m.getD k 0⟩ := rfl
    rw [hfold]
    have hlast : lastOk m (k + 1) (addR r ⟨(k : Int), 1, m.getD k 0⟩) ∧ ∃ a r', addR r ⟨(k : Int), 1, m.getD k 0⟩ = a :: r' ∧ a.f0 + a.f1 = ((k + 1 : Nat) : Int) := by
      cases r with
      | nil =>
        refine ⟨fun a r' h => ?_, _, _, rfl, by simp⟩
        simp only [addR, List.cons.injEq] at h
        obtain ⟨rfl, rfl⟩ := h
        exact ⟨by simp, by simp only; omega, fun _ => ⟨by omega, by simp only [Nat.add_sub_cancel]; omega, by simp only [Nat.add_sub_cancel], fun _ => by simp only [Nat.add_sub_cancel]⟩⟩
      | cons b r =>
        have hb2 := h2 b r rfl
        show lastOk m (k + 1) (if oneP b ⟨(k : Int), 1, m.getD k 0⟩ then _ else _) ∧ ∃ (a : EX) (r' : List EX), (if oneP b ⟨(k : Int), 1, m.getD k 0⟩ then _ else _) = a :: r' ∧ a.f0 + a.f1 = ((k + 1 : Nat) : Int)
        split
        · rename_i hone
          obtain ⟨o1, o2⟩ := hone
          simp only at o1 o2
          refine ⟨fun a r' h => ?_, _, _, rfl, by simp only; push_cast; omega⟩
          simp only [List.cons.injEq] at h
          obtain ⟨rfl, rfl⟩ := h
          simp only [Nat.add_sub_cancel]
          refine ⟨by push_cast; omega, hb2.2.1, fun _ => ⟨by omega, by omega, by omega, by omega⟩⟩
        · refine ⟨fun a r' h => ?_, _, _, rfl, by simp⟩
          simp only [List.cons.injEq] at h
          obtain ⟨rfl, rfl⟩ := h
          exact ⟨by simp, by simp only; omega, fun _ => ⟨by omega, by simp only [Nat.add_sub_cancel]; omega, by simp only [Nat.add_sub_cancel], fun _ => by simp only [Nat.add_sub_cancel]⟩⟩
    refine ⟨?_, hlast.1, fun _ _ => hlast.2⟩
    clear hlast
    by_cases hg : 0 < k ∧ goesOn (m.getD (k - 1) 0) (m.getD k 0)
    · rw [if_pos hg]
      obtain ⟨hk0, hg⟩ := hg
      unfold goesOn at hg
      obtain ⟨a, r', hr', he⟩ := h3 hk0 (by clear h3 h2 h1; omega)
      clear h3
      subst hr'
      have hl := h2 a r' rfl
      have hl2 := hl.2.2 he
      have ho : oneP a ⟨(k : Int), 1, m.getD k 0⟩ := ⟨he, by simp only; omega⟩
      show _ = (if oneP a ⟨(k : Int), 1, m.getD k 0⟩ then _ else _ : List EX).reverse
      rw [if_pos ho, List.reverse_cons, List.reverse_cons, List.length_append, List.length_reverse]
      simp only [List.length_cons, List.length_nil, Nat.zero_add, Nat.add_sub_cancel]
      rw [List.set_append_right _ _ (by simp), List.length_reverse, Nat.sub_self, List.set_cons_zero]
      congr 2
      show bump ((r'.reverse ++ [a]).getD _ _) = _
      rw [Int.toNat_natCast, List.getD_eq_getElem?_getD, List.getElem?_append_right (by simp), List.length_reverse, Nat.sub_self]
      rfl
    · rw [if_neg hg]
      cases r with
      | nil => rfl
      | cons a r =>
        have hl := h2 a r rfl
        show _ = (if oneP a ⟨(k : Int), 1, m.getD k 0⟩ then _ else _ : List EX).reverse
        rw [if_neg, List.reverse_cons (a := (⟨(k : Int), 1, m.getD k 0⟩ : EX))]
        rintro ⟨o1, o2⟩
        simp only at o1 o2
        have hl2 := hl.2.2 o1
        exact hg ⟨hl2.1, by unfold goesOn; omega⟩
def um (m : List Int) : List EX := units m 64
theorem exM_build {m : List Int} (hm : okM m) : exM m = build (um m) := (ex_units hm 64 (Nat.le_refl _)).1
theorem um_isU {m : List Int} (hm : okM m) : ∀ u ∈ um m, isU u := units_isU hm (Nat.le_refl _)
theorem Ul_exM {m : List Int} (hm : okM m) : Ul (exM m) = um m := by
  rw [exM_build hm, Ul_build _ (fun x hx => (um_isU hm x hx).2), Ul_units _ (um_isU hm)]
theorem exM_alone {m : List Int} (hm : okM m) : ∀ x ∈ exM m, alone x := by
  rw [exM_build hm]; exact build_alone _ (fun x hx => (um_isU hm x hx).2)
theorem exM_length (m : List Int) : (exM m).length ≤ 64 := exN_length m 64
end Go.Proofs.Ytmbigclkmclbdaa.ExtP
namespace Go.Proofs.Ytmbigclkmclbdaa.ExtP
open Go.RowKit Go.Proofs.YtmbigclkmclbdaaW.PrintWords Go.Proofs.YtmbigclkmclbdaaW.PrintLast Go.Proofs.YtmbigclkmclbdaaW.PrintMore Go.Proofs.Ytmbigclkmclbdaa.A Go.Proofs.Ytmbigclkmclbdaa.Hand Go.Proofs.Ytmbigclkmclbdaa.Maps
set_option linter.unusedVariables false
set_option linter.unusedSimpArgs false
theorem one_eq (a x : EX) (ha : alone a) : extent_one.f a.f0 a.f1 a.f2 x.f0 x.f1 x.f2 = some (decide (oneP a x)) := by
  obtain ⟨a1, a2, a3, a4, a5⟩ := ha
  have hO : oneP a x ↔ (a.f0 + a.f1 = x.f0 ∧ (a.f2 = 0 ∧ x.f2 = 0 ∨ 0 < a.f2 ∧ 0 < x.f2 ∧ x.f2 = a.f2 + a.f1)) := Iff.rfl
  unfold extent_one.f extent_own.f
  rw [Option.bind_some, end_yes a1 a2 a3, Option.bind_some]
  by_cases h1 : a.f0 + a.f1 = x.f0
  · rw [if_pos h1]
    by_cases h2 : a.f2 = 0
    · rw [if_pos h2]
      congr 1
      rw [Bool.eq_iff_iff, beq_iff_eq, decide_eq_true_eq, hO]
      omega
    · rw [if_neg h2]
      by_cases h3 : x.f2 > 0
      · rw [if_pos h3, w_id (by omega) (by omega)]
        congr 1
        rw [Bool.eq_iff_iff, beq_iff_eq, decide_eq_true_eq, hO]
        omega
      · rw [if_neg h3, decide_eq_false (fun h => by have := hO.1 h; omega)]
  · rw [if_neg h1, decide_eq_false (fun h => h1 (hO.1 h).1)]
theorem rdT_last (r : List EX) (a : EX) : rd_T29 (r ++ [a]) (r.length : Int) = a := by
  show (r ++ [a]).getD _ _ = a
  rw [Int.toNat_natCast, List.getD_eq_getElem?_getD, List.getElem?_append_right (Nat.le_refl _), Nat.sub_self]; rfl
theorem add_eq (l : List EX) (x : EX) (hl : ∀ y ∈ l, alone y) (hx : x.f1 ≤ 64 ∧ 0 ≤ x.f1) (hn : l.length ≤ 1000000) : extent_add.f l x.f0 x.f1 x.f2 = some (addR l.reverse x).reverse := by
  rcases List.eq_nil_or_concat l with rfl | ⟨r, a, rfl⟩
  · unfold extent_add.f
    rw [if_neg (by simp only [List.length_nil]; unfold wrap64; omega), if_pos (by simp)]; rfl
  · rw [List.concat_eq_append] at hl hn ⊢
    unfold extent_add.f
    have hlen : wrap64 (((r ++ [a]).length : Int) - 1) = (r.length : Int) := by
      simp only [List.length_append, List.length_cons, List.length_nil] at hn ⊢
      unfold wrap64; omega
    have ha := hl a (by simp)
    rw [hlen, if_pos (by omega), if_pos (by omega), if_pos (by simp only [List.length_append, List.length_cons, List.length_nil]; omega), rdT_last, one_eq a x ha, Option.bind_some, List.reverse_append]
    show _ = some (if oneP a x then _ else _ : List EX).reverse
    by_cases h : oneP a x
    · rw [if_pos (decide_eq_true h), if_pos h, Int.toNat_natCast, List.set_append_right _ _ (Nat.le_refl _), Nat.sub_self, List.set_cons_zero, w_id (by obtain ⟨_, _, _, _, _⟩ := ha; omega) (by obtain ⟨_, _, _, _, _⟩ := ha; omega), List.reverse_cons]
      simp
    · rw [if_neg (by rw [decide_eq_true_eq]; exact h), if_neg h, if_pos (by omega)]
      simp
theorem addR_length (r : List EX) (x : EX) : (addR r x).length ≤ r.length + 1 := by
  cases r with
  | nil => exact Nat.le_refl _
  | cons a r =>
    show (if oneP a x then _ else _ : List EX).length ≤ _
    split <;> simp
theorem fold_length : ∀ (xs r : List EX), (xs.foldl addR r).length ≤ r.length + xs.length
  | [], r => Nat.le_refl _
  | x :: xs, r => by
    have h1 := fold_length xs (addR r x)
    have h2 := addR_length r x
    show (xs.foldl addR (addR r x)).length ≤ _
    rw [List.length_cons]; omega
/-! ### Cut -/
/-- What an extent says outside of a span. -/
def pieces (s0 s1 : Int) (x : EX) : List EX := (lessV x.f0 x.f1 s0 s1).map fun y => ⟨y.f0, y.f1, if x.f2 = 0 then 0 else x.f2 + (y.f0 - x.f0)⟩
/-- Is a unit outside of a span? -/
def outB (s0 s1 : Int) (u : EX) : Bool := ! decide (wh s0 s1 ∧ s0 ≤ u.f0 ∧ u.f0 < s0 + s1)
theorem unA_filter (f id : Int) (p : EX → Bool) (n : Nat) (v : Bool) (h : ∀ i : Nat, i < n → p ⟨f + i, 1, if id = 0 then 0 else id + i⟩ = v) : (unA f id n).filter p = if v = true then unA f id n else [] := by
  induction n with
  | zero => cases v <;> rfl
  | succ n ih =>
    rw [unA_succ, List.filter_append, ih (fun i hi => h i (by omega)), List.filter_cons, h n (by omega), List.filter_nil]
    cases v <;> simp
theorem pieces_ok (s0 s1 : Int) (x : EX) (hx : alone x) : (∀ y ∈ pieces s0 s1 x, alone y) ∧ Ul (pieces s0 s1 x) = (un x).filter (outB s0 s1) := by
  obtain ⟨f, n, id⟩ := x
  obtain ⟨x1, x2, x3, x4, x5⟩ := hx
  simp only at x1 x2 x3 x4 x5
  unfold pieces lessV
  simp only
  have hw : wh f n := ⟨x1, x2, x3⟩
  rw [if_pos hw]
  by_cases hl : laps f n s0 s1
  · rw [if_pos hl]
    obtain ⟨_, hs, hm⟩ := hl
    obtain ⟨s2, s3, s4⟩ := hs
    -- places: f .. a .. b .. f + n
    obtain ⟨p, hp⟩ : ∃ p : Nat, max f s0 = f + p := ⟨(max f s0 - f).toNat, by omega⟩
    obtain ⟨q, hq⟩ : ∃ q : Nat, min (f + n) (s0 + s1) = f + p + q := ⟨(min (f + n) (s0 + s1) - f - p).toNat, by omega⟩
    obtain ⟨t, ht⟩ : ∃ t : Nat, f + n = f + p + q + t := ⟨(n - p - q).toNat, by omega⟩
    have hn : n.toNat = p + (q + t) := by omega
    have e1 : (unA f id p).filter (outB s0 s1) = unA f id p := by
      rw [unA_filter f id _ p true, if_pos rfl]
      intro i hi
      unfold outB
      rw [decide_eq_false (by simp only; omega)]; rfl
    have e2 : (unA (f + p) (if id = 0 then 0 else id + p) q).filter (outB s0 s1) = [] := by
      rw [unA_filter _ _ _ q false, if_neg (by decide)]
      intro i hi
      unfold outB
      rw [decide_eq_true (by simp only; unfold wh; omega)]; rfl
    have e3 : ∀ g : Int, (unA (f + p + q) g t).filter (outB s0 s1) = unA (f + p + q) g t := by
      intro g
      rw [unA_filter _ _ _ t true, if_pos rfl]
      intro i hi
      unfold outB
      rw [decide_eq_false (by simp only; omega)]; rfl
    have hid : 0 ≤ (if id = 0 then 0 else id + (p : Int)) := by split <;> omega
    have hun : (un ⟨f, n, id⟩).filter (outB s0 s1) = unA f id p ++ unA (f + p + q) (if id = 0 then 0 else id + (p + q)) t := by
      unfold un
      simp only
      rw [hn, unA_add f id x4, unA_add _ _ hid, List.filter_append, List.filter_append, e1, e2, e3, List.nil_append]
      congr 2
      by_cases h0 : id = 0
      · simp [h0]
      · rw [if_neg h0, if_neg h0, if_neg (by omega)]; omega
    have hA : f < s0 ↔ 0 < p := by omega
    have hB : s0 + s1 < f + n ↔ 0 < t := by omega
    rw [hun]
    by_cases ha : f < s0
    · have hs0 : s0 = f + p := by omega
      by_cases hb : s0 + s1 < f + n
      · have hs1 : s0 + s1 = f + p + q := by omega
        rw [if_pos ha, if_pos hb]
        refine ⟨?_, ?_⟩
        · intro y hy
          simp only [List.cons_append, List.nil_append, List.map_cons, List.map_nil, List.mem_cons, List.not_mem_nil, or_false] at hy
          rcases hy with rfl | rfl
          · unfold alone; simp only; split <;> omega
          · unfold alone; simp only; split <;> omega
        · show un _ ++ (un _ ++ []) = _
          rw [List.append_nil]
          unfold un
          simp only
          congr 2
          · by_cases h0 : id = 0
            · simp [h0]
            · rw [if_neg h0]; omega
          · omega
          · by_cases h0 : id = 0
            · simp [h0]
            · rw [if_neg h0, if_neg h0]; omega
          · omega
      · have ht0 : t = 0 := by omega
        subst ht0
        rw [if_pos ha, if_neg hb]
        refine ⟨?_, ?_⟩
        · intro y hy
          simp only [List.append_nil, List.map_cons, List.map_nil, List.mem_cons, List.not_mem_nil, or_false] at hy
          subst hy
          unfold alone; simp only; split <;> omega
        · show un _ ++ [] = _
          rw [List.append_nil]
          show _ = _ ++ []
          rw [List.append_nil]
          unfold un
          simp only
          congr 1
          · by_cases h0 : id = 0
            · simp [h0]
            · rw [if_neg h0]; omega
          · omega
    · have hp0 : p = 0 := by omega
      subst hp0
      by_cases hb : s0 + s1 < f + n
      · rw [if_neg ha, if_pos hb]
        refine ⟨?_, ?_⟩
        · intro y hy
          simp only [List.nil_append, List.map_cons, List.map_nil, List.mem_cons, List.not_mem_nil, or_false] at hy
          subst hy
          unfold alone; simp only; split <;> omega
        · show un _ ++ [] = [] ++ _
          rw [List.append_nil, List.nil_append]
          unfold un
          simp only
          congr 1
          · omega
          · by_cases h0 : id = 0
            · simp [h0]
            · rw [if_neg h0, if_neg h0]; omega
          · omega
      · have ht0 : t = 0 := by omega
        subst ht0
        rw [if_neg ha, if_neg hb]
        exact ⟨fun y hy => by simp at hy, rfl⟩
  · rw [if_neg hl]
    refine ⟨?_, ?_⟩
    · intro y hy
      simp only [List.map_cons, List.map_nil, List.mem_cons, List.not_mem_nil, or_false] at hy
      subst hy
      unfold alone; simp only; split <;> omega
    · show un _ ++ [] = _
      rw [List.append_nil]
      have e : (un ⟨f, n, id⟩).filter (outB s0 s1) = un ⟨f, n, id⟩ := by
        unfold un
        simp only
        rw [unA_filter _ _ _ _ true, if_pos rfl]
        intro i hi
        unfold outB
        rw [decide_eq_false]; rfl
        rintro ⟨h1, h2, h3⟩
        simp only at h2 h3
        exact hl ⟨hw, h1, by obtain ⟨_, _, _⟩ := h1; omega⟩
      rw [e]
      congr 2
      show (⟨f, n, if id = 0 then 0 else id + (f - f)⟩ : EX) = _
      by_cases h0 : id = 0
      · simp [h0]
      · rw [if_neg h0]; congr 1; omega
end Go.Proofs.Ytmbigclkmclbdaa.ExtP
namespace Go.Proofs.Ytmbigclkmclbdaa.ExtP
open Go.RowKit Go.Proofs.YtmbigclkmclbdaaW.PrintWords Go.Proofs.YtmbigclkmclbdaaW.PrintLast Go.Proofs.YtmbigclkmclbdaaW.PrintMore Go.Proofs.Ytmbigclkmclbdaa.A Go.Proofs.Ytmbigclkmclbdaa.Hand Go.Proofs.Ytmbigclkmclbdaa.Maps
set_option linter.unusedVariables false
set_option linter.unusedSimpArgs false
theorem rdT_at (l : List EX) (i : Nat) (h : i < l.length) : rd_T29 l (i : Int) = l[i] := by
  show l.getD _ _ = _
  rw [Int.toNat_natCast, List.getD_eq_getElem?_getD, List.getElem?_eq_getElem h]; rfl
theorem rdS_at (l : List S34) (i : Nat) (h : i < l.length) : rd_T34 l (i : Int) = l[i] := by
  show l.getD _ _ = _
  rw [Int.toNat_natCast, List.getD_eq_getElem?_getD, List.getElem?_eq_getElem h]; rfl
theorem lessV_length (a m b n : Int) : (lessV a m b n).length ≤ 2 := by
  unfold lessV
  split
  · split
    · rw [List.length_append]; split <;> split <;> simp
    · simp
  · simp
theorem lessV_in (a m b n : Int) : ∀ y ∈ lessV a m b n, a ≤ y.f0 ∧ y.f0 + y.f1 ≤ a + m ∧ 1 ≤ y.f1 := by
  intro y hy
  unfold lessV at hy
  split at hy
  · rename_i hw
    obtain ⟨w1, w2, w3⟩ := hw
    split at hy
    · rename_i hl
      obtain ⟨_, ⟨l1, l2, l3⟩, l4⟩ := hl
      rcases List.mem_append.1 hy with hy | hy
      · split at hy
        · simp only [List.mem_singleton] at hy; subst hy; simp only; omega
        · cases hy
      · split at hy
        · simp only [List.mem_singleton] at hy; subst hy; simp only; omega
        · cases hy
    · simp only [List.mem_singleton] at hy; subst hy; simp only; omega
  · cases hy
/-- A part of an extent. -/
def partV (x : EX) (y : S34) : EX := ⟨y.f0, y.f1, if x.f2 = 0 then 0 else x.f2 + (y.f0 - x.f0)⟩
theorem part_eq (x : EX) (y : S34) (hx : alone x) (h1 : x.f0 ≤ y.f0) (h2 : y.f0 ≤ 64) : extent_part.f x.f0 x.f1 x.f2 y.f0 y.f1 = some ((partV x y).f0, (partV x y).f1, (partV x y).f2) := by
  obtain ⟨x1, x2, x3, x4, x5⟩ := hx
  unfold extent_part.f extent_id.f partV
  by_cases h : x.f2 = 0
  · rw [if_pos h, Option.bind_some, if_pos h]
  · rw [if_neg h, Option.bind_some, if_neg h]
    have e : wrap64 (wrap64 (x.f2 + y.f0) - x.f0) = x.f2 + (y.f0 - x.f0) := by unfold wrap64; omega
    rw [e]
theorem cut_l1 (x : EX) (hx : alone x) (l : List EX) (n i s0 s1 : Int) (ys : List S34) (hys : ∀ y ∈ ys, x.f0 ≤ y.f0 ∧ y.f0 + y.f1 ≤ x.f0 + x.f1 ∧ 1 ≤ y.f1) (hal : ∀ y ∈ ys, alone (partV x y)) (hyl : ys.length ≤ 2) (d : Nat) : ∀ (k j : Nat) (out : List EX), j + d = ys.length → (∀ y ∈ out, alone y) → out.length + d ≤ 1000000 →
    extent_Cut.l1 (k + d + 1) out l n i ys (ys.length : Int) (j : Int) s0 s1 x.f0 x.f1 x.f2 = extent_Cut.l0 k (((ys.drop j).map (partV x)).foldl addR out.reverse).reverse l n (wrap64 (i + 1)) s0 s1 := by
  have hx' := hx
  obtain ⟨x1, x2, x3, x4, x5⟩ := hx'
  induction d with
  | zero =>
    intro k j out hj ho hl
    simp only [extent_Cut.l1, Nat.add_zero]
    rw [if_neg (by omega), List.drop_of_length_le (by omega)]
    simp
  | succ d ih =>
    intro k j out hj ho hl
    rw [show k + (d + 1) + 1 = (k + d + 1) + 1 by omega]
    generalize hK : k + d + 1 = K
    simp only [extent_Cut.l1]
    have hjl : j < ys.length := by omega
    have hy := hys ys[j] (List.getElem_mem hjl)
    have ha := hal ys[j] (List.getElem_mem hjl)
    rw [if_pos (by omega), if_pos (by omega), if_pos (by omega), rdS_at ys j hjl, part_eq x ys[j] hx hy.1 (by omega), Option.bind_some]
    simp only
    rw [add_eq out (partV x ys[j]) ho (by unfold partV; simp only; omega) (by omega), Option.bind_some]
    rw [show wrap64 ((j : Int) + 1) = ((j + 1 : Nat) : Int) by unfold wrap64; omega]
    rw [← hK, ih k (j + 1) _ (by omega) (fun y hy => addR_alone (r := out.reverse) (fun z hz => ho z (List.mem_reverse.1 hz)) ha y (List.mem_reverse.1 hy)) (by rw [List.length_reverse]; have := addR_length out.reverse (partV x ys[j]); rw [List.length_reverse] at this; omega)]
    rw [List.reverse_reverse, List.drop_eq_getElem_cons hjl]
    rfl
theorem pieces_partV (s0 s1 : Int) (x : EX) : pieces s0 s1 x = (lessV x.f0 x.f1 s0 s1).map (partV x) := rfl
theorem cut_l0 (l : List EX) (hl : ∀ y ∈ l, alone y) (hn : l.length ≤ 1000) (s0 s1 : Int) (d : Nat) : ∀ (k i : Nat) (out : List EX), i + d = l.length → (∀ y ∈ out, alone y) → out.length + 2 * d ≤ 100000 → 5 * d + 5 < k →
    extent_Cut.l0 k out l (l.length : Int) (i : Int) s0 s1 = some (((l.drop i).flatMap (pieces s0 s1)).foldl addR out.reverse).reverse := by
  induction d with
  | zero =>
    intro k i out hi ho hln hk
    obtain ⟨k, rfl⟩ : ∃ m, k = m + 1 := ⟨k - 1, by omega⟩
    simp only [extent_Cut.l0]
    rw [if_neg (by omega), List.drop_of_length_le (by omega)]
    simp
  | succ d ih =>
    intro k i out hi ho hln hk
    obtain ⟨k, rfl⟩ : ∃ m, k = m + 1 + 1 := ⟨k - 2, by omega⟩
    simp only [extent_Cut.l0]
    have hil : i < l.length := by omega
    have hx := hl l[i] (List.getElem_mem hil)
    obtain ⟨hp1, _⟩ := pieces_ok s0 s1 l[i] hx
    have hL := lessV_length l[i].f0 l[i].f1 s0 s1
    rw [if_pos (by omega), if_pos (by omega), if_pos (by omega), rdT_at l i hil]
    unfold extent_own.f
    rw [Option.bind_some]
    simp only
    rw [less_eq, Option.bind_some]
    obtain ⟨k', hk'⟩ : ∃ k', k + 1 = k' + (lessV l[i].f0 l[i].f1 s0 s1).length + 1 := ⟨k - (lessV l[i].f0 l[i].f1 s0 s1).length, by omega⟩
    rw [hk']
    have h1 := cut_l1 l[i] hx l (l.length : Int) (i : Int) s0 s1 (lessV l[i].f0 l[i].f1 s0 s1) (lessV_in _ _ _ _) (fun y hy => hp1 _ (by rw [pieces_partV]; exact List.mem_map_of_mem hy)) hL _ k' 0 out (Nat.zero_add _) ho (by omega)
    rw [show ((0 : Nat) : Int) = 0 from rfl] at h1
    rw [h1, List.drop_zero, ← pieces_partV, show wrap64 ((i : Int) + 1) = ((i + 1 : Nat) : Int) by unfold wrap64; omega]
    have hplen : (pieces s0 s1 l[i]).length ≤ 2 := by rw [pieces_partV, List.length_map]; exact hL
    rw [ih k' (i + 1) _ (by omega) (fun y hy => fold_alone (pieces s0 s1 l[i]) out.reverse (fun z hz => ho z (List.mem_reverse.1 hz)) hp1 y (List.mem_reverse.1 hy)) (by rw [List.length_reverse]; have := fold_length (pieces s0 s1 l[i]) out.reverse; rw [List.length_reverse] at this; omega) (by omega)]
    rw [List.reverse_reverse, List.drop_eq_getElem_cons hil, List.flatMap_cons, List.foldl_append]
theorem Ul_flat (f : EX → List EX) (p : EX → Bool) : ∀ l : List EX, (∀ x ∈ l, Ul (f x) = (un x).filter p) → Ul (l.flatMap f) = (Ul l).filter p
  | [], _ => rfl
  | x :: l, h => by
    rw [List.flatMap_cons, Ul_append, h x List.mem_cons_self, Ul_flat f p l (fun y hy => h y (List.mem_cons_of_mem _ hy))]
    show _ = List.filter p (un x ++ Ul l)
    rw [List.filter_append]
theorem cut_eq (l : List EX) (hl : ∀ y ∈ l, alone y) (hn : l.length ≤ 1000) (s0 s1 : Int) (k : Nat) (hk : 5 * l.length + 5 < k) : extent_Cut.f k l s0 s1 = some (build ((Ul l).filter (outB s0 s1))) := by
  unfold extent_Cut.f
  have h := cut_l0 l hl hn s0 s1 l.length k 0 [] (by omega) (fun _ h => by cases h) (by simp only [List.length_nil]; omega) hk
  rw [show ((0 : Nat) : Int) = 0 from rfl] at h
  rw [h, List.drop_zero, List.reverse_nil]
  have ha : ∀ y ∈ l.flatMap (pieces s0 s1), alone y := by
    intro y hy
    obtain ⟨x, hx, hy⟩ := List.mem_flatMap.1 hy
    exact (pieces_ok s0 s1 x (hl x hx)).1 y hy
  rw [← split_l _ [] ha, Ul_flat _ (outB s0 s1) l (fun x hx => (pieces_ok s0 s1 x (hl x hx)).2)]
  rfl
/-! ### Set -/
theorem single_eq (x : EX) : extent_single.f x.f0 x.f1 x.f2 = some (decide (alone x)) := by
  have hA : alone x ↔ (0 ≤ x.f0 ∧ 1 ≤ x.f1 ∧ x.f0 + x.f1 ≤ 64 ∧ 0 ≤ x.f2 ∧ (x.f2 = 0 ∨ x.f2 + x.f1 ≤ 61)) := Iff.rfl
  unfold extent_single.f extent_own.f span_Valid.f
  rw [Option.bind_some]
  simp only
  rw [whole_eq, Option.bind_some]
  by_cases hw : wh x.f0 x.f1
  · obtain ⟨w1, w2, w3⟩ := hw
    rw [if_pos (decide_eq_true ⟨w1, w2, w3⟩), w_id (by omega) (by omega), Option.bind_some, if_pos (decide_eq_true w3)]
    by_cases h1 : x.f2 = 0
    · rw [if_pos h1, decide_eq_true (hA.2 (by omega))]
    · rw [if_neg h1]
      by_cases h2 : x.f2 ≥ 1
      · rw [if_pos h2]
        by_cases h3 : x.f2 ≤ 60
        · rw [if_pos h3, w_id (by omega) (by omega)]
          congr 1
          rw [decide_eq_decide, hA]
          omega
        · rw [if_neg h3, decide_eq_false (fun h => by have := hA.1 h; omega)]
      · rw [if_neg h2, decide_eq_false (fun h => by have := hA.1 h; omega)]
  · rw [if_neg (by rw [decide_eq_true_eq]; exact hw), Option.bind_some, if_neg (by decide), decide_eq_false (fun h => hw (by have := hA.1 h; exact ⟨this.1, this.2.1, this.2.2.1⟩))]
/-- Where an extent comes in. -/
def insSeq (x : EX) : List EX → List EX
  | [] => [x]
  | y :: c => if x.f0 < y.f0 then x :: y :: c else y :: insSeq x c
theorem insSeq_length (x : EX) : ∀ c, (insSeq x c).length = c.length + 1
  | [] => rfl
  | y :: c => by unfold insSeq; split <;> simp [insSeq_length x c]
theorem insSeq_alone (x : EX) (hx : alone x) : ∀ c : List EX, (∀ y ∈ c, alone y) → ∀ y ∈ insSeq x c, alone y
  | [], _ => fun y hy => by simp only [insSeq, List.mem_singleton] at hy; subst hy; exact hx
  | z :: c, h => by
    unfold insSeq
    split
    · intro y hy
      rcases List.mem_cons.1 hy with rfl | hy
      · exact hx
      · exact h y hy
    · intro y hy
      rcases List.mem_cons.1 hy with rfl | hy
      · exact h y List.mem_cons_self
      · exact insSeq_alone x hx c (fun w hw => h w (List.mem_cons_of_mem _ hw)) y hy
theorem set_l0 (x : EX) (hx : alone x) (c : List EX) (hc : ∀ y ∈ c, alone y) (hn : c.length ≤ 1000) (d : Nat) : ∀ (k i : Nat) (out : List EX) (done : Bool), i + d = c.length → (∀ y ∈ out, alone y) → out.length + 2 * d ≤ 100000 → 2 * d + 5 < k →
    extent_Set.l0 k out done c (c.length : Int) (i : Int) x.f0 x.f1 x.f2 = some ((if done = true then c.drop i else insSeq x (c.drop i)).foldl addR out.reverse).reverse := by
  have hx2 : x.f1 ≤ 64 ∧ 0 ≤ x.f1 := by obtain ⟨_, _, _, _, _⟩ := hx; omega
  have aR : ∀ (out : List EX) (y : EX), (∀ z ∈ out, alone z) → alone y → ∀ z ∈ (addR out.reverse y).reverse, alone z := fun out y ho hy z hz => addR_alone (r := out.reverse) (fun w hw => ho w (List.mem_reverse.1 hw)) hy z (List.mem_reverse.1 hz)
  have aL : ∀ (out : List EX) (y : EX), (addR out.reverse y).reverse.length ≤ out.length + 1 := fun out y => by
    have := addR_length out.reverse y
    rw [List.length_reverse] at this ⊢
    exact this
  induction d with
  | zero =>
    intro k i out done hi ho hl hk
    obtain ⟨k, rfl⟩ : ∃ m, k = m + 1 := ⟨k - 1, by omega⟩
    simp only [extent_Set.l0]
    rw [if_neg (by omega), List.drop_of_length_le (by omega)]
    cases done with
    | true => simp
    | false =>
      rw [if_neg (by decide), add_eq out x ho hx2 (by omega), Option.bind_some]
      rfl
  | succ d ih =>
    intro k i out done hi ho hl hk
    obtain ⟨k, rfl⟩ : ∃ m, k = m + 1 + 1 := ⟨k - 2, by omega⟩
    have hil : i < c.length := by omega
    have hy := hc c[i] (List.getElem_mem hil)
    have hy2 : c[i].f1 ≤ 64 ∧ 0 ≤ c[i].f1 := by obtain ⟨_, _, _, _, _⟩ := hy; omega
    have hw : wrap64 ((i : Int) + 1) = ((i + 1 : Nat) : Int) := by unfold wrap64; omega
    have hd : c.drop i = c[i] :: c.drop (i + 1) := List.drop_eq_getElem_cons hil
    simp only [extent_Set.l0]
    rw [if_pos (by omega), if_pos (by omega), if_pos (by omega), rdT_at c i hil]
    cases done with
    | true =>
      rw [if_pos rfl, if_pos rfl]
      simp only [extent_Set.j1]
      rw [if_neg (by decide), add_eq out c[i] ho hy2 (by omega), Option.bind_some, hw, ih k (i + 1) _ true (by omega) (aR out _ ho hy) (by have := aL out c[i]; omega) (by omega), hd, List.reverse_reverse, if_pos rfl]
      rfl
    | false =>
      rw [if_neg (by decide)]
      simp only [extent_Set.j1]
      by_cases hg : c[i].f0 > x.f0
      · rw [if_pos (decide_eq_true hg), add_eq out x ho hx2 (by omega), Option.bind_some, add_eq _ c[i] (aR out x ho hx) hy2 (by have := aL out x; omega), Option.bind_some, hw]
        rw [ih k (i + 1) _ true (by omega) (aR _ _ (aR out x ho hx) hy) (by have := aL out x; have := aL (addR out.reverse x).reverse c[i]; omega) (by omega), hd, List.reverse_reverse, if_pos rfl, if_neg (by decide)]
        show _ = some ((if x.f0 < c[i].f0 then x :: c[i] :: c.drop (i + 1) else c[i] :: insSeq x (c.drop (i + 1))).foldl addR out.reverse).reverse
        rw [if_pos (by omega), List.reverse_reverse]
        rfl
      · rw [if_neg (by rw [decide_eq_true_eq]; exact hg), add_eq out c[i] ho hy2 (by omega), Option.bind_some, hw, ih k (i + 1) _ false (by omega) (aR out _ ho hy) (by have := aL out c[i]; omega) (by omega), hd, List.reverse_reverse, if_neg (by decide), if_neg (by decide)]
        show _ = some ((if x.f0 < c[i].f0 then x :: c[i] :: c.drop (i + 1) else c[i] :: insSeq x (c.drop (i + 1))).foldl addR out.reverse).reverse
        rw [if_neg (by omega)]
        rfl
theorem set_yes (l : List EX) (hl : ∀ y ∈ l, alone y) (hn : l.length ≤ 1000) (x : EX) (hx : alone x) (hcl : (build ((Ul l).filter (outB x.f0 x.f1))).length ≤ 1000) (hca : ∀ u ∈ (Ul l).filter (outB x.f0 x.f1), alone u) (k : Nat) (hk : 5 * l.length + 5 < k) (hk2 : 2010 < k) :
    extent_Set.f k l x.f0 x.f1 x.f2 = some (build (Ul (insSeq x (build ((Ul l).filter (outB x.f0 x.f1)))))) := by
  unfold extent_Set.f
  rw [single_eq, Option.bind_some, if_pos (decide_eq_true hx)]
  unfold extent_own.f
  rw [Option.bind_some]
  simp only
  rw [cut_eq l hl hn _ _ k hk, Option.bind_some]
  have hc := build_alone _ hca
  generalize build ((Ul l).filter (outB x.f0 x.f1)) = c at *
  have h := set_l0 x hx c hc hcl c.length k 0 [] false (by omega) (fun _ h => by cases h) (by simp only [List.length_nil]; omega) (by omega)
  rw [show ((0 : Nat) : Int) = 0 from rfl] at h
  rw [h, if_neg (by decide), List.drop_zero, List.reverse_nil, ← split_l _ [] (insSeq_alone x hx c hc)]
  rfl
theorem set_no (l : List EX) (hl : ∀ y ∈ l, alone y) (hn : l.length ≤ 1000) (x : EX) (hx : ¬ alone x) (k : Nat) (hk : 5 * l.length + 5 < k) :
    extent_Set.f k l x.f0 x.f1 x.f2 = some (build ((Ul l).filter (outB 0 0))) := by
  unfold extent_Set.f
  rw [single_eq, Option.bind_some, if_neg (by rw [decide_eq_true_eq]; exact hx), cut_eq l hl hn 0 0 k hk]
  rfl
theorem out_zero (us : List EX) : us.filter (outB 0 0) = us := by
  rw [List.filter_eq_self]
  intro u _
  unfold outB
  rw [decide_eq_false (fun h => by have := h.1.2.1; omega)]; rfl
end Go.Proofs.Ytmbigclkmclbdaa.ExtP
namespace Go.Proofs.Ytmbigclkmclbdaa.ExtP
open Go.RowKit Go.Proofs.YtmbigclkmclbdaaW.PrintWords Go.Proofs.YtmbigclkmclbdaaW.PrintLast Go.Proofs.YtmbigclkmclbdaaW.PrintMore Go.Proofs.Ytmbigclkmclbdaa.A Go.Proofs.Ytmbigclkmclbdaa.Hand Go.Proofs.Ytmbigclkmclbdaa.Maps
set_option linter.unusedVariables false
set_option linter.unusedSimpArgs false
/-- A map, told block by block. -/
def mk (f : Nat → Int) : List Int := (List.range 64).map f
theorem mk_length (f : Nat → Int) : (mk f).length = 64 := by unfold mk; simp
theorem mk_get (f : Nat → Int) (k : Nat) : (mk f).getD k 0 = if k < 64 then f k else 0 := by
  unfold mk
  rw [List.getD_eq_getElem?_getD, List.getElem?_map]
  by_cases h : k < 64
  · rw [List.getElem?_range h, if_pos h]; rfl
  · rw [List.getElem?_eq_none (by simp; omega), if_neg h]; rfl
theorem map_ext {m m' : List Int} (h : m.length = 64) (h' : m'.length = 64) (he : ∀ k, k < 64 → m.getD k 0 = m'.getD k 0) : m = m' := by
  apply List.ext_getElem (by rw [h, h'])
  intro i h1 h2
  have := he i (by omega)
  rw [List.getD_eq_getElem?_getD, List.getElem?_eq_getElem h1, List.getD_eq_getElem?_getD, List.getElem?_eq_getElem h2] at this
  exact this
theorem okM_mk {f : Nat → Int} (h : ∀ k, k < 64 → -1 ≤ f k ∧ f k ≤ 60) : okM (mk f) := ⟨mk_length f, fun j => by
  rw [mk_get]
  split
  · rename_i hj; exact h j hj
  · omega⟩
theorem units_congr {m m' : List Int} {k : Nat} (h : ∀ j, j < k → m.getD j 0 = m'.getD j 0) : units m k = units m' k := by
  induction k with
  | zero => rfl
  | succ k ih => rw [units_succ, units_succ, ih (fun j hj => h j (by omega)), h k (by omega)]
/-- A span is cut out. -/
def cutM (m : List Int) (s0 s1 : Int) : List Int := mk fun k => if wh s0 s1 ∧ s0 ≤ k ∧ (k : Int) < s0 + s1 then -1 else m.getD k 0
theorem cutM_ok {m : List Int} (hm : okM m) (s0 s1 : Int) : okM (cutM m s0 s1) := okM_mk fun k _ => by
  split
  · omega
  · exact hm.2 k
theorem cutM_get (m : List Int) (s0 s1 : Int) (k : Nat) (hk : k < 64) : (cutM m s0 s1).getD k 0 = if wh s0 s1 ∧ s0 ≤ k ∧ (k : Int) < s0 + s1 then -1 else m.getD k 0 := by
  unfold cutM; rw [mk_get, if_pos hk]
theorem units_cut (m : List Int) (s0 s1 : Int) : ∀ k, k ≤ 64 → units (cutM m s0 s1) k = (units m k).filter (outB s0 s1)
  | 0, _ => rfl
  | k + 1, hk => by
    rw [units_succ, units_succ, List.filter_append, units_cut m s0 s1 k (by omega), cutM_get m s0 s1 k (by omega)]
    congr 1
    by_cases h : wh s0 s1 ∧ s0 ≤ (k : Int) ∧ (k : Int) < s0 + s1
    · rw [if_pos h, if_pos (by omega)]
      split
      · rfl
      · rw [List.filter_cons, if_neg, List.filter_nil]
        unfold outB
        rw [decide_eq_true h]; decide
    · rw [if_neg h]
      split
      · rfl
      · rw [List.filter_cons, if_pos, List.filter_nil]
        unfold outB
        rw [decide_eq_false h]; rfl
theorem um_cut (m : List Int) (s0 s1 : Int) : um (cutM m s0 s1) = (um m).filter (outB s0 s1) := units_cut m s0 s1 64 (Nat.le_refl _)
theorem Cut_map {m : List Int} (hm : okM m) (s0 s1 : Int) (k : Nat) (hk : 330 < k) : extent_Cut.f k (exM m) s0 s1 = some (exM (cutM m s0 s1)) := by
  have hl := exM_length m
  rw [cut_eq _ (exM_alone hm) (by omega) s0 s1 k (by omega), Ul_exM hm, exM_build (cutM_ok hm s0 s1), um_cut]
theorem cutM_zero {m : List Int} (hm : m.length = 64) : cutM m 0 0 = m := map_ext (mk_length _) hm fun k hk => by
  rw [cutM_get m 0 0 k hk, if_neg (fun h => by have := h.1.2.1; omega)]
/-! ### Set -/
theorem stM_get (m : List Int) (hm : m.length = 64) (f : Nat) (id : Int) : ∀ n, f + n ≤ 64 → ∀ k, k < 64 → (stM m f id n).getD k 0 = if f ≤ k ∧ k < f + n then (if id > 0 then id + ((k - f : Nat) : Int) else 0) else m.getD k 0
  | 0, _, k, _ => by rw [if_neg (by omega)]; rfl
  | n + 1, hn, k, hk => by
    rw [Maps.stM, List.getD_eq_getElem?_getD, List.getElem?_set]
    by_cases h : f + n = k
    · subst h
      have hc : f ≤ f + n ∧ f + n < f + (n + 1) := by omega
      rw [if_pos rfl, if_pos (by rw [stM_length]; omega), if_pos hc, show f + n - f = n by omega]; rfl
    · rw [if_neg h, ← List.getD_eq_getElem?_getD, stM_get m hm f id n (by omega) k hk]
      by_cases h2 : f ≤ k ∧ k < f + n
      · have hc : f ≤ k ∧ k < f + (n + 1) := by omega
        rw [if_pos h2, if_pos hc]
      · have hc : ¬ (f ≤ k ∧ k < f + (n + 1)) := by omega
        rw [if_neg h2, if_neg hc]
theorem setM_get (m : List Int) (hm : m.length = 64) (x : EX) (hx : alone x) (k : Nat) (hk : k < 64) : (setM m x).getD k 0 = if x.f0 ≤ k ∧ (k : Int) < x.f0 + x.f1 then (if x.f2 > 0 then x.f2 + (k - x.f0) else 0) else m.getD k 0 := by
  have hx' := hx
  obtain ⟨x1, x2, x3, x4, x5⟩ := hx'
  unfold setM
  rw [if_pos hx, stM_get m hm _ _ _ (by omega) k hk]
  by_cases h : x.f0 ≤ k ∧ (k : Int) < x.f0 + x.f1
  · rw [if_pos h, if_pos (by omega)]
    split <;> omega
  · rw [if_neg h, if_neg (by omega)]
theorem setM_no (m : List Int) (x : EX) (hx : ¬ alone x) : setM m x = m := by unfold setM; rw [if_neg hx]
theorem units_app (m : List Int) (a : Nat) : ∀ b, units m (a + b) = units m a ++ (List.range b).flatMap fun (j : Nat) => if m.getD (a + j) 0 < 0 then [] else [(⟨((a + j : Nat) : Int), 1, m.getD (a + j) 0⟩ : EX)]
  | 0 => by simp
  | b + 1 => by rw [← Nat.add_assoc, units_succ, units_app m a b, List.range_succ, List.flatMap_append, List.append_assoc]; simp
theorem filter_all {p : EX → Bool} {l : List EX} (h : ∀ u ∈ l, p u = true) : l.filter p = l := List.filter_eq_self.2 h
theorem filter_none {p : EX → Bool} {l : List EX} (h : ∀ u ∈ l, p u = false) : l.filter p = [] := by
  rw [List.filter_eq_nil_iff]
  intro u hu
  rw [h u hu]; decide
theorem units_f0 (m : List Int) (k : Nat) : ∀ u ∈ units m k, 0 ≤ u.f0 ∧ u.f0 < k ∧ u.f2 = m.getD u.f0.toNat 0 ∧ 0 ≤ u.f2 := by
  intro u hu
  unfold units at hu
  obtain ⟨j, hj, hu⟩ := List.mem_flatMap.1 hu
  have hj := List.mem_range.1 hj
  split at hu
  · cases hu
  · simp only [List.mem_singleton] at hu
    subst hu
    simp only [Int.toNat_natCast]
    exact ⟨by omega, by omega, trivial, by omega⟩
/-- The units of a map in which an extent was set. -/
theorem um_set {m : List Int} (hm : okM m) (x : EX) (hx : alone x) : um (setM m x) = (um m).filter (fun u => decide (u.f0 < x.f0)) ++ un x ++ (um m).filter (fun u => decide (x.f0 + x.f1 ≤ u.f0)) := by
  have hx' := hx
  obtain ⟨f, n, id⟩ := x
  obtain ⟨x1, x2, x3, x4, x5⟩ := hx'
  simp only at x1 x2 x3 x4 x5 ⊢
  obtain ⟨p, rfl⟩ := Int.eq_ofNat_of_zero_le x1
  obtain ⟨q, rfl⟩ := Int.eq_ofNat_of_zero_le (show 0 ≤ n by omega)
  obtain ⟨t, ht⟩ : ∃ t : Nat, p + (q + t) = 64 := ⟨64 - p - q, by omega⟩
  have hget := setM_get m hm.1 ⟨(p : Int), (q : Int), id⟩ hx
  simp only at hget
  have hpq := units_app (setM m ⟨(p : Int), (q : Int), id⟩) (p + q) t
  have hp := units_app (setM m ⟨(p : Int), (q : Int), id⟩) p q
  have gpq := units_app m (p + q) t
  have gp := units_app m p q
  have e64 : p + q + t = 64 := by omega
  unfold um
  rw [← e64, hpq, hp, gpq, gp]
  have s1 : units (setM m ⟨(p : Int), (q : Int), id⟩) p = units m p := units_congr fun j hj => by rw [hget j (by omega), if_neg (by omega)]
  have s2 : ((List.range q).flatMap fun (j : Nat) => if (setM m ⟨(p : Int), (q : Int), id⟩).getD (p + j) 0 < 0 then [] else [(⟨((p + j : Nat) : Int), 1, (setM m ⟨(p : Int), (q : Int), id⟩).getD (p + j) 0⟩ : EX)]) = un ⟨(p : Int), (q : Int), id⟩ := by
    unfold un unA
    simp only [Int.toNat_natCast]
    have : ∀ b, b ≤ q → ((List.range b).flatMap fun (j : Nat) => if (setM m ⟨(p : Int), (q : Int), id⟩).getD (p + j) 0 < 0 then [] else [(⟨((p + j : Nat) : Int), 1, (setM m ⟨(p : Int), (q : Int), id⟩).getD (p + j) 0⟩ : EX)]) = (List.range b).map fun (i : Nat) => (⟨(p : Int) + i, 1, if id = 0 then 0 else id + i⟩ : EX) := by
      intro b
      induction b with
      | zero => intro _; rfl
      | succ b ih =>
        intro hb
        rw [List.range_succ, List.flatMap_append, List.map_append, ih (by omega)]
        congr 1
        simp only [List.flatMap_cons, List.flatMap_nil, List.append_nil, List.map_cons, List.map_nil]
        have hg := hget (p + b) (by omega)
        rw [if_pos (show (p : Int) ≤ ((p + b : Nat) : Int) ∧ ((p + b : Nat) : Int) < (p : Int) + (q : Int) by omega)] at hg
        rw [hg]
        by_cases h0 : id = 0
        · subst h0
          simp
        · have h1 : id > 0 := by omega
          rw [if_pos h1]
          have h2 : ¬ (id + (((p + b : Nat) : Int) - (p : Int)) < 0) := by omega
          rw [if_neg h2, if_neg h0]
          congr 2
          omega
    exact this q (Nat.le_refl _)
  have s3 : ((List.range t).flatMap fun (j : Nat) => if (setM m ⟨(p : Int), (q : Int), id⟩).getD (p + q + j) 0 < 0 then [] else [(⟨((p + q + j : Nat) : Int), 1, (setM m ⟨(p : Int), (q : Int), id⟩).getD (p + q + j) 0⟩ : EX)]) = ((List.range t).flatMap fun (j : Nat) => if m.getD (p + q + j) 0 < 0 then [] else [(⟨((p + q + j : Nat) : Int), 1, m.getD (p + q + j) 0⟩ : EX)]) := by
    have : ∀ b, b ≤ t → ((List.range b).flatMap fun (j : Nat) => if (setM m ⟨(p : Int), (q : Int), id⟩).getD (p + q + j) 0 < 0 then [] else [(⟨((p + q + j : Nat) : Int), 1, (setM m ⟨(p : Int), (q : Int), id⟩).getD (p + q + j) 0⟩ : EX)]) = ((List.range b).flatMap fun (j : Nat) => if m.getD (p + q + j) 0 < 0 then [] else [(⟨((p + q + j : Nat) : Int), 1, m.getD (p + q + j) 0⟩ : EX)]) := by
      intro b
      induction b with
      | zero => intro _; rfl
      | succ b ih =>
        intro hb
        rw [List.range_succ, List.flatMap_append, List.flatMap_append, ih (by omega)]
        simp only [List.flatMap_cons, List.flatMap_nil]
        rw [hget (p + q + b) (by omega), if_neg (show ¬ ((p : Int) ≤ ((p + q + b : Nat) : Int) ∧ ((p + q + b : Nat) : Int) < (p : Int) + (q : Int)) by omega)]
    exact this t (Nat.le_refl _)
  rw [s1, s2, s3]
  have mid : ∀ (a b : Nat), ∀ u ∈ ((List.range b).flatMap fun (j : Nat) => if m.getD (a + j) 0 < 0 then [] else [(⟨((a + j : Nat) : Int), 1, m.getD (a + j) 0⟩ : EX)]), (a : Int) ≤ u.f0 ∧ u.f0 < a + b := by
    intro a b u hu
    obtain ⟨j, hj, hu⟩ := List.mem_flatMap.1 hu
    have hj := List.mem_range.1 hj
    split at hu
    · cases hu
    · simp only [List.mem_singleton] at hu
      subst hu
      simp only
      omega
  rw [List.filter_append, List.filter_append, List.filter_append, List.filter_append]
  rw [filter_all (l := units m p) (p := fun u => decide (u.f0 < (p : Int))) (fun u hu => decide_eq_true (units_f0 m p u hu).2.1)]
  rw [filter_none (p := fun u => decide (u.f0 < (p : Int))) (fun u hu => decide_eq_false (by have := mid p q u hu; omega))]
  rw [filter_none (p := fun u => decide (u.f0 < (p : Int))) (fun u hu => decide_eq_false (by have := mid (p + q) t u hu; omega))]
  rw [filter_none (l := units m p) (p := fun u => decide ((p : Int) + (q : Int) ≤ u.f0)) (fun u hu => decide_eq_false (by have := (units_f0 m p u hu).2.1; omega))]
  rw [filter_none (p := fun u => decide ((p : Int) + (q : Int) ≤ u.f0)) (fun u hu => decide_eq_false (by have := mid p q u hu; omega))]
  rw [filter_all (p := fun u => decide ((p : Int) + (q : Int) ≤ u.f0)) (fun u hu => decide_eq_true (by have := mid (p + q) t u hu; omega))]
  simp only [List.append_nil, List.nil_append, List.append_assoc]
/-- Units in order. -/
def rising : List EX → Prop
  | [] => True
  | u :: l => (∀ v ∈ l, u.f0 < v.f0) ∧ rising l
theorem rising_app {a b : List EX} (h : rising (a ++ b)) : rising b ∧ ∀ u ∈ a, ∀ v ∈ b, u.f0 < v.f0 := by
  induction a with
  | nil => exact ⟨h, fun u hu => by cases hu⟩
  | cons x a ih =>
    obtain ⟨h1, h2⟩ := h
    obtain ⟨i1, i2⟩ := ih h2
    refine ⟨i1, fun u hu v hv => ?_⟩
    rcases List.mem_cons.1 hu with rfl | hu
    · exact h1 v (List.mem_append_right _ hv)
    · exact i2 u hu v hv
theorem rising_snoc {a : List EX} {u : EX} (h : rising a) (hu : ∀ v ∈ a, v.f0 < u.f0) : rising (a ++ [u]) := by
  induction a with
  | nil => exact ⟨(fun v hv => by cases hv), trivial⟩
  | cons x a ih =>
    refine ⟨fun v hv => ?_, ih h.2 (fun v hv => hu v (List.mem_cons_of_mem _ hv))⟩
    rcases List.mem_append.1 hv with hv | hv
    · exact h.1 v hv
    · simp only [List.mem_singleton] at hv; subst hv; exact hu x List.mem_cons_self
theorem rising_units (m : List Int) : ∀ k, rising (units m k)
  | 0 => trivial
  | k + 1 => by
    rw [units_succ]
    split
    · rw [List.append_nil]; exact rising_units m k
    · exact rising_snoc (rising_units m k) (fun v hv => (units_f0 m k v hv).2.1)
theorem rising_filter (p : EX → Bool) : ∀ l : List EX, rising l → rising (l.filter p)
  | [], _ => trivial
  | u :: l, h => by
    rw [List.filter_cons]
    split
    · exact ⟨fun v hv => h.1 v (List.mem_filter.1 hv).1, rising_filter p l h.2⟩
    · exact rising_filter p l h.2
theorem un_head (y : EX) (hy : alone y) : (⟨y.f0, 1, y.f2⟩ : EX) ∈ un y := by
  obtain ⟨y1, y2, y3, y4, y5⟩ := hy
  unfold un unA
  refine List.mem_map.2 ⟨0, List.mem_range.2 (by omega), ?_⟩
  by_cases h : y.f2 = 0
  · rw [if_pos h, h]; simp
  · rw [if_neg h]; simp
theorem un_mem {y u : EX} (hy : alone y) (hu : u ∈ un y) : y.f0 ≤ u.f0 ∧ u.f0 < y.f0 + y.f1 := by
  obtain ⟨y1, y2, y3, y4, y5⟩ := hy
  unfold un unA at hu
  obtain ⟨i, hi, rfl⟩ := List.mem_map.1 hu
  have := List.mem_range.1 hi
  simp only
  omega
theorem un_has {y : EX} (hy : alone y) {k : Int} (h1 : y.f0 ≤ k) (h2 : k < y.f0 + y.f1) : (⟨k, 1, if y.f2 = 0 then 0 else y.f2 + (k - y.f0)⟩ : EX) ∈ un y := by
  obtain ⟨y1, y2, y3, y4, y5⟩ := hy
  unfold un unA
  refine List.mem_map.2 ⟨(k - y.f0).toNat, List.mem_range.2 (by omega), ?_⟩
  rw [show y.f0 + ((k - y.f0).toNat : Int) = k by omega, show ((k - y.f0).toNat : Int) = k - y.f0 by omega]
theorem ins_units (x : EX) (hx : alone x) : ∀ c : List EX, (∀ y ∈ c, alone y) → rising (Ul c) → (∀ u ∈ Ul c, u.f0 < x.f0 ∨ x.f0 + x.f1 ≤ u.f0) →
    Ul (insSeq x c) = (Ul c).filter (fun u => decide (u.f0 < x.f0)) ++ un x ++ (Ul c).filter (fun u => decide (x.f0 + x.f1 ≤ u.f0))
  | [], _, _, _ => by show un x ++ [] = [] ++ un x ++ []; simp
  | y :: c, hc, hr, ho => by
    have hy := hc y List.mem_cons_self
    have hx1 : 1 ≤ x.f1 := hx.2.1
    have hh := un_head y hy
    have hin : (⟨y.f0, 1, y.f2⟩ : EX) ∈ Ul (y :: c) := List.mem_append_left (Ul c) hh
    have hsplit : Ul (y :: c) = un y ++ Ul c := rfl
    rw [hsplit] at hr ho ⊢
    obtain ⟨r1, r2⟩ := rising_app hr
    unfold insSeq
    by_cases hg : x.f0 < y.f0
    · rw [if_pos hg]
      have hall : ∀ u ∈ un y ++ Ul c, x.f0 + x.f1 ≤ u.f0 := by
        intro u hu
        rcases ho u hu with h | h
        · exfalso
          rcases List.mem_append.1 hu with hu | hu
          · have := un_mem hy hu; omega
          · have := r2 _ hh u hu; simp only at this; omega
        · exact h
      rw [filter_none (p := fun u => decide (u.f0 < x.f0)) (fun u hu => decide_eq_false (by have := hall u hu; omega)), filter_all (p := fun u => decide (x.f0 + x.f1 ≤ u.f0)) (fun u hu => decide_eq_true (hall u hu))]
      rfl
    · rw [if_neg hg]
      have hyx : y.f0 < x.f0 := by
        rcases ho _ hin with h | h
        · exact h
        · simp only at h; omega
      have hend : y.f0 + y.f1 ≤ x.f0 := by
        rcases Int.lt_or_le x.f0 (y.f0 + y.f1) with h | h
        · exfalso
          have hm := un_has hy (k := x.f0) (by omega) h
          rcases ho _ (List.mem_append_left _ hm) with h2 | h2
          · simp only at h2; omega
          · simp only at h2; omega
        · exact h
      have hall : ∀ u ∈ un y, u.f0 < x.f0 := fun u hu => by have := un_mem hy hu; omega
      show un y ++ Ul (insSeq x c) = _
      rw [ins_units x hx c (fun z hz => hc z (List.mem_cons_of_mem _ hz)) r1 (fun u hu => ho u (List.mem_append_right _ hu)), List.filter_append, List.filter_append]
      rw [filter_all (l := un y) (p := fun u => decide (u.f0 < x.f0)) (fun u hu => decide_eq_true (hall u hu)), filter_none (l := un y) (p := fun u => decide (x.f0 + x.f1 ≤ u.f0)) (fun u hu => decide_eq_false (by have := hall u hu; omega))]
      simp only [List.append_assoc, List.nil_append]
theorem build_length (us : List EX) : (build us).length ≤ us.length := by
  unfold build
  rw [List.length_reverse]
  have := fold_length us []
  simpa using this
theorem units_length (m : List Int) : ∀ k, (units m k).length ≤ k
  | 0 => Nat.le_refl _
  | k + 1 => by
    rw [units_succ, List.length_append]
    have := units_length m k
    split <;> simp <;> omega
theorem Set_map {m : List Int} (hm : okM m) (x : EX) (k : Nat) (hk : 2010 < k) : extent_Set.f k (exM m) x.f0 x.f1 x.f2 = some (exM (setM m x)) := by
  have hl := exM_length m
  by_cases hx : alone x
  · have hca : ∀ u ∈ (um m).filter (outB x.f0 x.f1), alone u := fun u hu => (um_isU hm u (List.mem_filter.1 hu).1).2
    have hb := build_length ((um m).filter (outB x.f0 x.f1))
    have hf : ((um m).filter (outB x.f0 x.f1)).length ≤ 64 := Nat.le_trans (List.length_filter_le _ _) (units_length m 64)
    rw [set_yes _ (exM_alone hm) (by omega) x hx (by rw [Ul_exM hm]; omega) (by rw [Ul_exM hm]; exact hca) k (by omega) (by omega), Ul_exM hm, exM_build (hm.setM x), um_set hm x hx]
    congr 2
    have hU : Ul (build ((um m).filter (outB x.f0 x.f1))) = (um m).filter (outB x.f0 x.f1) := by
      rw [Ul_build _ hca, Ul_units _ (fun u hu => um_isU hm u (List.mem_filter.1 hu).1)]
    have hw : wh x.f0 x.f1 := ⟨hx.1, hx.2.1, hx.2.2.1⟩
    have hout : ∀ u : EX, outB x.f0 x.f1 u = true ↔ (u.f0 < x.f0 ∨ x.f0 + x.f1 ≤ u.f0) := by
      intro u
      unfold outB
      rw [Bool.not_eq_true', decide_eq_false_iff_not]
      constructor
      · intro h
        rcases Int.lt_or_le u.f0 x.f0 with h1 | h1
        · exact Or.inl h1
        · rcases Int.lt_or_le u.f0 (x.f0 + x.f1) with h2 | h2
          · exact absurd ⟨hw, h1, h2⟩ h
          · exact Or.inr h2
      · rintro h ⟨_, h1, h2⟩
        omega
    rw [ins_units x hx _ (build_alone _ hca) (by rw [hU]; exact rising_filter _ _ (rising_units m 64)) (by rw [hU]; intro u hu; exact (hout u).1 (List.mem_filter.1 hu).2), hU, List.filter_filter, List.filter_filter]
    have hx1 : 1 ≤ x.f1 := hx.2.1
    congr 2
    · congr 1
      funext u
      by_cases h : u.f0 < x.f0
      · rw [decide_eq_true h, (hout u).2 (Or.inl h)]; rfl
      · rw [decide_eq_false h]; rfl
    · funext u
      by_cases h : x.f0 + x.f1 ≤ u.f0
      · rw [decide_eq_true h, (hout u).2 (Or.inr h)]; rfl
      · rw [decide_eq_false h]; rfl
  · rw [set_no _ (exM_alone hm) (by omega) x hx k (by omega), out_zero, Ul_exM hm, setM_no m x hx, exM_build hm]
end Go.Proofs.Ytmbigclkmclbdaa.ExtP
namespace Go.Proofs.Ytmbigclkmclbdaa.ExtP
open Go.RowKit Go.Proofs.YtmbigclkmclbdaaW.PrintWords Go.Proofs.YtmbigclkmclbdaaW.PrintLast Go.Proofs.YtmbigclkmclbdaaW.PrintMore Go.Proofs.Ytmbigclkmclbdaa.A Go.Proofs.Ytmbigclkmclbdaa.Hand Go.Proofs.Ytmbigclkmclbdaa.Maps
set_option linter.unusedVariables false
set_option linter.unusedSimpArgs false
theorem foldM_ok (l : List EX) : ∀ m : List Int, okM m → okM (l.foldl setM m) := by
  induction l with
  | nil => intro m h; exact h
  | cons x l ih => intro m h; exact ih _ (h.setM x)
theorem over_l0 (l : List EX) (hn : l.length ≤ 1000000) (d : Nat) : ∀ (k i : Nat) (m : List Int), i + d = l.length → okM m → 2011 + d < k →
    extent_Over.l0 k (exM m) l (l.length : Int) (i : Int) = some (exM ((l.drop i).foldl setM m)) := by
  induction d with
  | zero =>
    intro k i m hi hm hk
    obtain ⟨k, rfl⟩ : ∃ m, k = m + 1 := ⟨k - 1, by omega⟩
    simp only [extent_Over.l0]
    rw [if_neg (by omega), List.drop_of_length_le (by omega)]
    rfl
  | succ d ih =>
    intro k i m hi hm hk
    obtain ⟨k, rfl⟩ : ∃ m, k = m + 1 := ⟨k - 1, by omega⟩
    have hil : i < l.length := by omega
    simp only [extent_Over.l0]
    rw [if_pos (by omega), if_pos (by omega), if_pos (by omega), rdT_at l i hil, Set_map hm l[i] k (by omega), Option.bind_some, show wrap64 ((i : Int) + 1) = ((i + 1 : Nat) : Int) by unfold wrap64; omega, ih k (i + 1) _ (by omega) (hm.setM _) (by omega), List.drop_eq_getElem_cons hil]
    rfl
theorem Over_fold {m : List Int} (hm : okM m) (l : List EX) (hn : l.length ≤ 1000000) (k : Nat) (hk : 2011 + l.length < k) : extent_Over.f k (exM m) l = some (exM (l.foldl setM m)) := by
  unfold extent_Over.f
  rw [Cut_map hm 0 0 k (by omega), Option.bind_some, cutM_zero hm.1]
  have := over_l0 l hn l.length k 0 m (by omega) hm hk
  simpa using this
theorem set_units {m : List Int} (f : Nat) (id : Int) (h0 : 0 ≤ id) : ∀ n : Nat, f + n ≤ 64 → (id = 0 ∨ id + n ≤ 61) → (unA (f : Int) id n).foldl setM m = Maps.stM m f id n
  | 0, _, _ => rfl
  | n + 1, hn, hid => by
    rw [unA_succ, List.foldl_append, set_units f id h0 n (by omega) (by omega)]
    show setM (Maps.stM m f id n) _ = (Maps.stM m f id n).set (f + n) _
    have ha : alone (⟨(f : Int) + n, 1, if id = 0 then 0 else id + n⟩ : EX) := by
      unfold alone; simp only; split <;> omega
    unfold setM
    rw [if_pos ha]
    simp only
    rw [show ((f : Int) + n).toNat = f + n by omega, show (1 : Int).toNat = 0 + 1 from rfl]
    show (Maps.stM _ (f + n) _ 0).set (f + n + 0) _ = _
    show (Maps.stM m f id n).set (f + n) _ = _
    congr 1
    by_cases h : id = 0
    · rw [if_pos h, h]; simp
    · rw [if_neg h, if_pos (by omega), if_pos (by omega)]; simp
theorem setM_units (m : List Int) (x : EX) (hx : alone x) : setM m x = (un x).foldl setM m := by
  have hx' := hx
  obtain ⟨x1, x2, x3, x4, x5⟩ := hx'
  unfold un
  have h := set_units (m := m) x.f0.toNat x.f2 x4 x.f1.toNat (by omega) (by omega)
  rw [show ((x.f0.toNat : Nat) : Int) = x.f0 by omega] at h
  rw [h]
  unfold setM
  rw [if_pos hx]
theorem fold_Ul : ∀ (l : List EX) (m : List Int), (∀ x ∈ l, alone x) → l.foldl setM m = (Ul l).foldl setM m
  | [], _, _ => rfl
  | x :: l, m, h => by
    show l.foldl setM (setM m x) = (un x ++ Ul l).foldl setM m
    rw [List.foldl_append, ← setM_units m x (h x List.mem_cons_self)]
    exact fold_Ul l _ (fun y hy => h y (List.mem_cons_of_mem _ hy))
/-- One map over another one. -/
def overM (m m' : List Int) : List Int := mk fun k => if 0 ≤ m'.getD k 0 then m'.getD k 0 else m.getD k 0
theorem overM_ok {m m' : List Int} (hm : okM m) (hm' : okM m') : okM (overM m m') := okM_mk fun k _ => by
  split
  · exact hm'.2 k
  · exact hm.2 k
theorem fold_units {m m' : List Int} (hm : m.length = 64) (hm' : okM m') : ∀ k, k ≤ 64 → ((units m' k).foldl setM m).length = 64 ∧ ∀ j, j < 64 → ((units m' k).foldl setM m).getD j 0 = if j < k ∧ 0 ≤ m'.getD j 0 then m'.getD j 0 else m.getD j 0
  | 0, _ => ⟨hm, fun j _ => by rw [if_neg (by omega)]; rfl⟩
  | k + 1, hk => by
    obtain ⟨h1, h2⟩ := fold_units hm hm' k (by omega)
    rw [units_succ, List.foldl_append]
    have hb := hm'.2 k
    split
    · rename_i h
      refine ⟨h1, fun j hj => ?_⟩
      show ((units m' k).foldl setM m).getD j 0 = _
      rw [h2 j hj]
      by_cases hjk : j = k
      · subst hjk
        rw [if_neg (by omega), if_neg (by omega)]
      · by_cases hc : j < k ∧ 0 ≤ m'.getD j 0
        · rw [if_pos hc, if_pos ⟨by omega, hc.2⟩]
        · rw [if_neg hc, if_neg (fun h => hc ⟨by omega, h.2⟩)]
    · rename_i h
      have ha : alone (⟨(k : Int), 1, m'.getD k 0⟩ : EX) := by unfold alone; simp only; omega
      refine ⟨(setM_length _ _).trans h1, fun j hj => ?_⟩
      show (setM ((units m' k).foldl setM m) _).getD j 0 = _
      rw [setM_get _ h1 _ ha j hj, h2 j hj]
      simp only
      by_cases hjk : j = k
      · subst hjk
        rw [if_pos (show (j : Int) ≤ (j : Int) ∧ (j : Int) < (j : Int) + 1 by omega), if_pos (show j < j + 1 ∧ 0 ≤ m'.getD j 0 by omega)]
        split <;> omega
      · rw [if_neg (show ¬ ((k : Int) ≤ (j : Int) ∧ (j : Int) < (k : Int) + 1) by omega)]
        by_cases hc : j < k ∧ 0 ≤ m'.getD j 0
        · rw [if_pos hc, if_pos ⟨by omega, hc.2⟩]
        · rw [if_neg hc, if_neg (fun h => hc ⟨by omega, h.2⟩)]
theorem overM_get (m m' : List Int) (k : Nat) (hk : k < 64) : (overM m m').getD k 0 = if 0 ≤ m'.getD k 0 then m'.getD k 0 else m.getD k 0 := by
  unfold overM; rw [mk_get, if_pos hk]
theorem fold_exM {m m' : List Int} (hm : okM m) (hm' : okM m') : (exM m').foldl setM m = overM m m' := by
  rw [fold_Ul _ _ (exM_alone hm'), Ul_exM hm']
  obtain ⟨h1, h2⟩ := fold_units hm.1 hm' 64 (Nat.le_refl _)
  refine map_ext h1 (mk_length _) fun k hk => ?_
  show (List.foldl setM m (units m' 64)).getD k 0 = _
  rw [h2 k hk, overM_get m m' k hk]
  by_cases h : 0 ≤ m'.getD k 0
  · rw [if_pos ⟨hk, h⟩, if_pos h]
  · rw [if_neg (fun x => h x.2), if_neg h]
theorem Over_map {m m' : List Int} (hm : okM m) (hm' : okM m') (k : Nat) (hk : 2100 < k) : extent_Over.f k (exM m) (exM m') = some (exM (overM m m')) := by
  have hl := exM_length m'
  rw [Over_fold hm _ (by omega) k (by omega), fold_exM hm hm']
theorem exM_none : exM noneM = [] := by
  rw [exM_build okM.none]
  have : um noneM = [] := by
    unfold um units
    rw [List.flatMap_eq_nil_iff]
    intro j hj
    have hj := List.mem_range.1 hj
    rw [if_pos]
    unfold noneM
    rw [List.getD_eq_getElem?_getD, List.getElem?_replicate, if_pos hj]
    decide
  rw [this]; rfl
theorem noneM_get (k : Nat) (hk : k < 64) : noneM.getD k 0 = -1 := by
  unfold noneM
  rw [List.getD_eq_getElem?_getD, List.getElem?_replicate, if_pos hk]; rfl
/-! ### Find -/
theorem covers_has (x : EX) (hx : alone x) (q : Int) : span_Has.f x.f0 x.f1 q = some (decide (x.f0 ≤ q ∧ q < x.f0 + x.f1)) := by
  obtain ⟨x1, x2, x3, x4, x5⟩ := hx
  unfold span_Has.f
  rw [whole_eq, Option.bind_some, if_pos (decide_eq_true ⟨x1, x2, x3⟩)]
  by_cases h : q ≥ x.f0
  · rw [if_pos h, end_yes x1 x2 x3, Option.bind_some]
    congr 1
    rw [decide_eq_decide]
    omega
  · rw [if_neg h, decide_eq_false (by omega)]
theorem find_l0 (l : List EX) (hl : ∀ x ∈ l, alone x) (hn : l.length ≤ 1000000) (q : Int) (d : Nat) : ∀ (k i : Nat), i + d = l.length → d + 2 < k →
    extent_Find.l0 k q l (l.length : Int) (i : Int) = some (match (l.drop i).find? (fun x => decide (x.f0 ≤ q ∧ q < x.f0 + x.f1)) with | some x => (if x.f2 = 0 then 0 else x.f2 + (q - x.f0), true) | none => (0, false)) := by
  induction d with
  | zero =>
    intro k i hi hk
    obtain ⟨k, rfl⟩ : ∃ m, k = m + 1 := ⟨k - 1, by omega⟩
    simp only [extent_Find.l0]
    rw [if_neg (by omega), List.drop_of_length_le (by omega)]
    rfl
  | succ d ih =>
    intro k i hi hk
    obtain ⟨k, rfl⟩ : ∃ m, k = m + 1 := ⟨k - 1, by omega⟩
    have hil : i < l.length := by omega
    have hx := hl l[i] (List.getElem_mem hil)
    simp only [extent_Find.l0]
    rw [if_pos (by omega), if_pos (by omega), if_pos (by omega), rdT_at l i hil, List.drop_eq_getElem_cons hil]
    unfold extent_own.f
    rw [Option.bind_some]
    simp only
    rw [covers_has _ hx, Option.bind_some, List.find?_cons]
    by_cases h : l[i].f0 ≤ q ∧ q < l[i].f0 + l[i].f1
    · rw [decide_eq_true h, if_pos rfl]
      obtain ⟨x1, x2, x3, x4, x5⟩ := hx
      unfold extent_id.f
      by_cases h2 : l[i].f2 = 0
      · simp only [h2, if_true, Option.bind_some]
      · rw [if_neg h2, Option.bind_some]
        have e : wrap64 (wrap64 (l[i].f2 + q) - l[i].f0) = l[i].f2 + (q - l[i].f0) := by unfold wrap64; omega
        rw [e]
        simp only [h2, if_false]
    · rw [decide_eq_false h, if_neg (by decide), show wrap64 ((i : Int) + 1) = ((i + 1 : Nat) : Int) by unfold wrap64; omega]
      exact ih k (i + 1) (by omega) (by omega)
/-- What a map says of a block. -/
def findM (m : List Int) (q : Int) : Int × Bool := if 0 ≤ q ∧ q < 64 ∧ 0 ≤ m.getD q.toNat 0 then (m.getD q.toNat 0, true) else (0, false)
theorem um_mem {m : List Int} (k : Nat) (hk : k < 64) (h : 0 ≤ m.getD k 0) : (⟨(k : Int), 1, m.getD k 0⟩ : EX) ∈ um m := by
  unfold um units
  refine List.mem_flatMap.2 ⟨k, List.mem_range.2 hk, ?_⟩
  rw [if_neg (by omega)]
  exact List.mem_singleton.2 rfl
theorem Find_map {m : List Int} (hm : okM m) (q : Int) (k : Nat) (hk : 70 < k) : extent_Find.f k (exM m) q = some (findM m q) := by
  have hl := exM_length m
  have ha := exM_alone hm
  unfold extent_Find.f
  have h := find_l0 (exM m) ha (by omega) q (exM m).length k 0 (by omega) (by omega)
  rw [show ((0 : Nat) : Int) = 0 from rfl] at h
  rw [h, List.drop_zero]
  congr 1
  cases hf : (exM m).find? (fun x => decide (x.f0 ≤ q ∧ q < x.f0 + x.f1)) with
  | some x =>
    have hx := List.mem_of_find?_eq_some hf
    have hc : x.f0 ≤ q ∧ q < x.f0 + x.f1 := by have := List.find?_some hf; simpa using this
    have hu := un_has (ha x hx) hc.1 hc.2
    have hin : (⟨q, 1, if x.f2 = 0 then 0 else x.f2 + (q - x.f0)⟩ : EX) ∈ um m := by rw [← Ul_exM hm]; exact List.mem_flatMap.2 ⟨x, hx, hu⟩
    have hq := units_f0 m 64 _ hin
    simp only at hq ⊢
    unfold findM
    rw [if_pos (show 0 ≤ q ∧ q < 64 ∧ 0 ≤ m.getD q.toNat 0 by omega), hq.2.2.1]
  | none =>
    unfold findM
    rw [if_neg]
    rintro ⟨q0, q1, q2⟩
    have hin := um_mem q.toNat (by omega) q2
    rw [← Ul_exM hm] at hin
    obtain ⟨x, hx, hu⟩ := List.mem_flatMap.1 hin
    have hc := un_mem (ha x hx) hu
    simp only at hc
    have := List.find?_eq_none.1 hf x hx
    simp only [decide_eq_true_eq] at this
    exact this ⟨by omega, by omega⟩
/-! ### how many extents -/
def startB (m : List Int) (k : Nat) : Bool := decide (0 ≤ m.getD k 0) && ! decide (0 < k ∧ goesOn (m.getD (k - 1) 0) (m.getD k 0))
def cs (m : List Int) : Nat → Nat
  | 0 => 0
  | k + 1 => cs m k + (if startB m k = true then 1 else 0)
theorem len_cs (m : List Int) : ∀ k, (exN m k).length = cs m k
  | 0 => rfl
  | k + 1 => by
    rw [exN_succ]
    unfold exStep cs startB
    rw [← len_cs m k]
    by_cases h0 : m.getD k 0 < 0
    · rw [if_pos h0, decide_eq_false (by omega)]; rfl
    · rw [if_neg h0, decide_eq_true (by omega)]
      by_cases hg : 0 < k ∧ goesOn (m.getD (k - 1) 0) (m.getD k 0)
      · rw [if_pos hg, List.length_set, decide_eq_true hg]; rfl
      · rw [if_neg hg, List.length_append, decide_eq_false hg]; rfl
theorem cs_change (m m' : List Int) (a b : Nat) (h : ∀ k, k < 64 → k ≠ a → k ≠ b → startB m' k = true → startB m k = true) : ∀ k, k ≤ 64 → cs m' k ≤ cs m k + (if a < k then 1 else 0) + (if b < k then 1 else 0)
  | 0, _ => by simp [cs]
  | k + 1, hk => by
    have ih := cs_change m m' a b h k (by omega)
    unfold cs
    by_cases ha : k = a
    · subst ha
      rw [if_pos (show k < k + 1 by omega)]
      rw [if_neg (show ¬ k < k by omega)] at ih
      by_cases hb : b < k
      · rw [if_pos hb] at ih; rw [if_pos (show b < k + 1 by omega)]; split <;> split <;> omega
      · rw [if_neg hb] at ih; split <;> split <;> split <;> omega
    · by_cases hb : k = b
      · subst hb
        rw [if_pos (show k < k + 1 by omega)]
        rw [if_neg (show ¬ k < k by omega)] at ih
        by_cases ha2 : a < k
        · rw [if_pos ha2] at ih; rw [if_pos (show a < k + 1 by omega)]; split <;> split <;> omega
        · rw [if_neg ha2] at ih; rw [if_neg (show ¬ a < k + 1 by omega)]; split <;> split <;> omega
      · have h1 : (if a < k + 1 then 1 else 0) = (if a < k then 1 else 0) := by
          by_cases h : a < k
          · rw [if_pos h, if_pos (by omega)]
          · rw [if_neg h, if_neg (by omega)]
        have h2 : (if b < k + 1 then 1 else 0) = (if b < k then 1 else 0) := by
          by_cases h : b < k
          · rw [if_pos h, if_pos (by omega)]
          · rw [if_neg h, if_neg (by omega)]
        rw [h1, h2]
        have h3 := h k (by omega) ha hb
        by_cases hs : startB m' k = true
        · rw [if_pos hs, if_pos (h3 hs)]; omega
        · rw [if_neg hs]; split <;> omega
theorem set_length {m : List Int} (hm : okM m) (x : EX) (hx : alone x) : (exM (setM m x)).length ≤ (exM m).length + 2 := by
  unfold exM
  rw [len_cs, len_cs]
  have hx' := hx
  obtain ⟨x1, x2, x3, x4, x5⟩ := hx'
  have h := cs_change m (setM m x) x.f0.toNat (x.f0 + x.f1).toNat (fun k hk ha hb hs => by
    have g1 := setM_get m hm.1 x hx k hk
    unfold startB at hs ⊢
    by_cases hin : x.f0 ≤ k ∧ (k : Int) < x.f0 + x.f1
    · exfalso
      have g2 := setM_get m hm.1 x hx (k - 1) (by omega)
      rw [if_pos hin] at g1
      rw [if_pos (show x.f0 ≤ ((k - 1 : Nat) : Int) ∧ ((k - 1 : Nat) : Int) < x.f0 + x.f1 by omega)] at g2
      have : goesOn ((setM m x).getD (k - 1) 0) ((setM m x).getD k 0) := by
        unfold goesOn
        rw [g1, g2]
        by_cases h : x.f2 > 0
        · rw [if_pos h, if_pos h]; right; omega
        · rw [if_neg h, if_neg h]; left; omega
      rw [decide_eq_true (show 0 < k ∧ goesOn ((setM m x).getD (k - 1) 0) ((setM m x).getD k 0) from ⟨by omega, this⟩)] at hs
      simp at hs
    · rw [if_neg hin] at g1
      rw [g1] at hs
      by_cases hk0 : 0 < k
      · have g2 := setM_get m hm.1 x hx (k - 1) (by omega)
        rw [if_neg (show ¬ (x.f0 ≤ ((k - 1 : Nat) : Int) ∧ ((k - 1 : Nat) : Int) < x.f0 + x.f1) by omega)] at g2
        rw [g2] at hs
        exact hs
      · rw [decide_eq_false (show ¬ (0 < k ∧ goesOn ((setM m x).getD (k - 1) 0) (m.getD k 0)) from fun h => hk0 h.1)] at hs
        rw [decide_eq_false (show ¬ (0 < k ∧ goesOn (m.getD (k - 1) 0) (m.getD k 0)) from fun h => hk0 h.1)]
        exact hs) 64 (Nat.le_refl _)
  split at h <;> split at h <;> omega
theorem cut_length {m : List Int} (hm : okM m) (c : Int) : (exM (cutM m 0 c)).length ≤ (exM m).length + 1 := by
  unfold exM
  rw [len_cs, len_cs]
  have h := cs_change m (cutM m 0 c) c.toNat 64 (fun k hk ha hb hs => by
    have g1 := cutM_get m 0 c k hk
    unfold startB at hs ⊢
    by_cases hin : wh 0 c ∧ (0 : Int) ≤ k ∧ (k : Int) < 0 + c
    · exfalso
      rw [if_pos hin] at g1
      rw [g1] at hs
      simp at hs
    · rw [if_neg hin] at g1
      rw [g1] at hs
      by_cases hk0 : 0 < k
      · have g2 := cutM_get m 0 c (k - 1) (by omega)
        rw [if_neg (show ¬ (wh 0 c ∧ (0 : Int) ≤ ((k - 1 : Nat) : Int) ∧ ((k - 1 : Nat) : Int) < 0 + c) by
          rintro ⟨h1, h2, h3⟩
          exact hin ⟨h1, by omega, by omega⟩)] at g2
        rw [g2] at hs
        exact hs
      · rw [decide_eq_false (show ¬ (0 < k ∧ goesOn ((cutM m 0 c).getD (k - 1) 0) (m.getD k 0)) from fun h => hk0 h.1)] at hs
        rw [decide_eq_false (show ¬ (0 < k ∧ goesOn (m.getD (k - 1) 0) (m.getD k 0)) from fun h => hk0 h.1)]
        exact hs) 64 (Nat.le_refl _)
  rw [if_neg (show ¬ 64 < 64 by omega)] at h
  split at h <;> omega
end Go.Proofs.Ytmbigclkmclbdaa.ExtP
