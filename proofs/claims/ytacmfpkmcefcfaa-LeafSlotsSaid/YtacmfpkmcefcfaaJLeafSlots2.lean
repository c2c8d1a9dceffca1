/- Parts of the proof for LeafSlots: Tb. -/
import Derived.Test.YtacmfpkmcefcfaaProg
import Derived.Deep.Draws
import Derived.OwnWalk
import Derived.Tactics
import Derived.WalkKit
import Derived.KernelRfl
import Derived.RowKit3
import Derived.LoopN
import Derived.Handy
import Derived.Test.YtacmfpkmcefcfaaJLeafSlots1
section
namespace Go.Proofs.Ytacmfpkmcefcfaa.Tb
open Go.RowKit Go.Proofs.YtacmfpkmcefcfaaW.PrintWords Go.Proofs.YtacmfpkmcefcfaaW.PrintLast Go.Proofs.YtacmfpkmcefcfaaW.PrintMore
set_option linter.unusedVariables false
set_option linter.unusedSimpArgs false
def tally_bytes.f (a0 : Int) : Option ByteArray := some (strOfNums [a0 % 256, a0 / 256 % 256, a0 / 65536 % 256, a0 / 16777216 % 256])
theorem four_reads (w : World) (t : TypeId) (a b c d : Int) :
    ReadsInt (w.alloc (.cells #[.int .u8 a, .int .u8 b, .int .u8 c, .int .u8 d] t)) .u8 (some ⟨w.heap.size, 0, none⟩) 4 [a, b, c, d] := by
  refine ⟨rfl, by omega, fun _ => ⟨_, rfl, fun j hj => ?_⟩⟩
  match j, hj with
  | 0, _ => simp [go_sem, Addr.add]
  | 1, _ => simp [go_sem, Addr.add]
  | 2, _ => simp [go_sem, Addr.add]
  | 3, _ => simp [go_sem, Addr.add]
set_option maxRecDepth 100000 in
set_option maxHeartbeats 800000 in
theorem tally_bytes.calls (a0 : Int) (r : ByteArray) (w : World) (h : tally_bytes.f a0 = some r) :
    Calls Try.prog 124 #[.int .u32 a0] w fun e w' => e = .returned (.string r) ∧ Below w.heap.size w w' := by
  obtain rfl := Option.some.inj h
  have hcv := string_of_reads (P := Try.prog) (c := 4) Try.underlying24 Try.underlying5 Try.underlying9 (four_reads w 116 (a0 % 256) (a0 / 256 % 256) (a0 / 65536 % 256) (a0 / 16777216 % 256))
  go_enter Try.func124, Try.ntmps124
  go_wp2
  go_rounds 5
  go_ret
  exact ⟨rfl, (Below.refl _ _).alloc (Nat.le_refl _) _⟩
end Go.Proofs.Ytacmfpkmcefcfaa.Tb
end
