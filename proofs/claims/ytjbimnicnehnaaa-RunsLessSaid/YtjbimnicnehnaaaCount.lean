/- How many blocks a set of the reference has. -/
import Derived.Test.YtjbimnicnehnaaaSetsB
import Derived.Test.YtjbimnicnehnaaaAx0
namespace Go.Proofs.Ytjbimnicnehnaaa.Hand
open Go.RowKit Go.Proofs.YtjbimnicnehnaaaW.PrintWords Go.Proofs.YtjbimnicnehnaaaW.PrintLast Go.Proofs.YtjbimnicnehnaaaW.PrintMore Go.Proofs.Ytjbimnicnehnaaa.A
set_option linter.unusedVariables false
set_option linter.unusedSimpArgs false
attribute [local go_sem] max2_int min2_int max_two min_two max_three min_three max_four min_four
/-- How many of the first k. -/
def cntS (s : List Bool) : Nat → Nat
  | 0 => 0
  | k + 1 => cntS s k + (if s.getD k false = true then 1 else 0)
theorem cntS_le (s : List Bool) : ∀ k, cntS s k ≤ k
  | 0 => Nat.le_refl _
  | k + 1 => by have := cntS_le s k; unfold cntS; split <;> omega
set_option maxRecDepth 100000 in
theorem emulsionref1_Set_Count.calls (s : List Bool) (hs : Aside0 (s.length = 64)) (w : World) :
    Calls Try.prog 25 #[.agg (setArr s)] w fun e w' => e = .returned (.int .i64 ((cntS s 64 : Nat) : Int)) ∧ Below w.heap.size w w' := by
  go_enter Try.func25, Try.ntmps25
  go_wp2_with fail
  have HB0 : Aside0 (Below w.heap.size w (w.alloc (.cells (setArr s) 30))) := ⟨below_alloc (Below.refl _ _) _⟩
  have HX0 : Aside0 (Blk (w.alloc (.cells (setArr s) 30)) w.heap.size 30 (setArr s)) := ⟨Blk.new _ _ _⟩
  go_loopg [3, 4] 64 (fun kq u v wq => ∃ k : Nat, k + kq = 64 ∧ u = .int .i64 ((cntS s k : Nat) : Int) ∧ v = .int .i64 (k : Int) ∧ Aside0 (Below w.heap.size w wq) ∧ Aside0 (Blk wq w.heap.size 30 (setArr s)))
  case atStart => exact ⟨0, by omega, rfl, rfl, HB0, HX0⟩
  case round =>
    clear HB0 HX0
    obtain ⟨k, hk, rfl, rfl, HB, HX⟩ := hrel
    by_cases hlt : k < 64
    · have hlt' : (k : Int) < 64 := by omega
      have hk0 : (0 : Int) ≤ (k : Int) := by omega
      have hcl := cntS_le s k
      have hn1 : ((cntS s k : Nat) : Int) ≤ 64 := by omega
      have hn0 : (0 : Int) ≤ ((cntS s k : Nat) : Int) := by omega
      obtain ⟨kk, rfl⟩ : ∃ z, gk = z + 1 := ⟨gk - 1, by omega⟩
      have C0 := HX.out.cell (setArr_get s k (by have := hs.out; omega))
      have Hn : Aside0 (cntS s (k + 1) = cntS s k + (if s.getD k false = true then 1 else 0)) := ⟨rfl⟩
      generalize s.getD k false = bb at *
      generalize cntS s k = m at *
      cases bb
      · go_wp2_with fail
        go_roundg kk
        case measure => omega
        case rel => exact ⟨k + 1, by omega, by rw [Hn.out]; rfl, by go_num, HB, HX⟩
      · go_wp2_with fail
        go_roundg kk
        case measure => omega
        case rel => exact ⟨k + 1, by omega, by rw [Hn.out]; go_num, by go_num, HB, HX⟩
    · have hlt' : ¬ (k : Int) < 64 := by omega
      have hk64 : k = 64 := by omega
      subst hk64
      go_wp2_with fail
      go_ret
      exact ⟨rfl, HB.out⟩
end Go.Proofs.Ytjbimnicnehnaaa.Hand
