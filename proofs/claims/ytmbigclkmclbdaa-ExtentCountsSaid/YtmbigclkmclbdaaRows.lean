/-
  No cell of these rows narrows 'for every input' (looked for: loops, veiled, ifaces, maps, wideKeys, modest, calm, conditions, laid).
  DERIVED. THE GIVEN ROWS OF THIS SEAT. 9 by the template 'for every input the law returns true; each argument reads behind the call as it read before'; 0 by the template 'total and deterministic' (their statements: YtmbigclkmclbdaaTotals.lean).
  GIVEN WITH THE SEED: the statements are not yours to turn. If you find one false, say at which input.
  Laid BY PROGRAM, IN A SANDBOX (cutbox-rows.mjs): the forced cells as the released guide's own fill.sh prints them over the translation 0f212ece08440940… (all of the seat's roots in one cut). By AI agents, Wed Nov 11 2026. No macro, syntax, notation, axiom, sorry.
-/
import Derived.Test.YtmbigclkmclbdaaChecked
import GoSem.Claim
import GoSem.ClaimJoined
import GoSem.ClaimMapViews
import Derived.JoinedTies
import Derived.KernelRfl
namespace Go.Proofs.Ytmbigclkmclbdaa
/- THE CELL 'sum', in the pinned program and in every row, IS THE sha256 OF THE DUMP (.gsa) THAT YtmbigclkmclbdaaProg.lean LOADS. Nothing in Lean hashes anything: it is a label: what it is worth is what the hold of that sum in a sandbox is worth. -/
noncomputable def Try.pinned : Pinned := { name := "ytmbigclkmclbdaa", sum := "0f212ece08440940bc3161b557a7df29ec5033dc2df84c875decd3fc727694cd", checked := Try.checked }
namespace Rows
def none {H : Type} : Left H := { results := [], args := [] }

/-- 'emulsionlaw10.ExtentOvers': WHATEVER THE INPUT: true; the input reads as it did. -/
def extentOversSpec : ChangeSpec := { name := "extentOvers", fn := fun _ => fun
  | [d1, d2, d3] => { results := [.lit (.bool true)], args := [d1, d2, d3] }
  | _ => none }
def extentOversRow : OpenClaim := { program := "ytmbigclkmclbdaa", sum := "0f212ece08440940bc3161b557a7df29ec5033dc2df84c875decd3fc727694cd", func := "emulsion/emulsionlaw10.ExtentOvers", spec := "extentOvers", apart := false }
def ExtentOversSaid : Prop := extentOversRow.holds Try.pinned (OpenSpec.ofChange extentOversSpec)

/-- ITS FALSE NEIGHBOUR: 'it returns false'. Refute it at one input. -/
def extentOversWrong : ChangeSpec := { name := "extentOvers", fn := fun _ => fun
  | [d1, d2, d3] => { results := [.lit (.bool false)], args := [d1, d2, d3] }
  | _ => none }
def ExtentOversWrongFalsely : Prop := extentOversRow.holds Try.pinned (OpenSpec.ofChange extentOversWrong)

/-- 'emulsionlaw10.ExtentSets': WHATEVER THE INPUT: true; the input reads as it did. -/
def extentSetsSpec : ChangeSpec := { name := "extentSets", fn := fun _ => fun
  | [d1, d2] => { results := [.lit (.bool true)], args := [d1, d2] }
  | _ => none }
def extentSetsRow : OpenClaim := { program := "ytmbigclkmclbdaa", sum := "0f212ece08440940bc3161b557a7df29ec5033dc2df84c875decd3fc727694cd", func := "emulsion/emulsionlaw10.ExtentSets", spec := "extentSets", apart := false }
def ExtentSetsSaid : Prop := extentSetsRow.holds Try.pinned (OpenSpec.ofChange extentSetsSpec)

/-- ITS FALSE NEIGHBOUR: 'it returns false'. Refute it at one input. -/
def extentSetsWrong : ChangeSpec := { name := "extentSets", fn := fun _ => fun
  | [d1, d2] => { results := [.lit (.bool false)], args := [d1, d2] }
  | _ => none }
def ExtentSetsWrongFalsely : Prop := extentSetsRow.holds Try.pinned (OpenSpec.ofChange extentSetsWrong)

/-- 'emulsionlaw10.ExtentCuts': WHATEVER THE INPUT: true; the input reads as it did. -/
def extentCutsSpec : ChangeSpec := { name := "extentCuts", fn := fun _ => fun
  | [d1, d2] => { results := [.lit (.bool true)], args := [d1, d2] }
  | _ => none }
def extentCutsRow : OpenClaim := { program := "ytmbigclkmclbdaa", sum := "0f212ece08440940bc3161b557a7df29ec5033dc2df84c875decd3fc727694cd", func := "emulsion/emulsionlaw10.ExtentCuts", spec := "extentCuts", apart := false }
def ExtentCutsSaid : Prop := extentCutsRow.holds Try.pinned (OpenSpec.ofChange extentCutsSpec)

/-- ITS FALSE NEIGHBOUR: 'it returns false'. Refute it at one input. -/
def extentCutsWrong : ChangeSpec := { name := "extentCuts", fn := fun _ => fun
  | [d1, d2] => { results := [.lit (.bool false)], args := [d1, d2] }
  | _ => none }
def ExtentCutsWrongFalsely : Prop := extentCutsRow.holds Try.pinned (OpenSpec.ofChange extentCutsWrong)

/-- 'emulsionlaw10.ExtentCounts': WHATEVER THE INPUT: true; the input reads as it did. -/
def extentCountsSpec : ChangeSpec := { name := "extentCounts", fn := fun _ => fun
  | [d] => { results := [.lit (.bool true)], args := [d] }
  | _ => none }
def extentCountsRow : OpenClaim := { program := "ytmbigclkmclbdaa", sum := "0f212ece08440940bc3161b557a7df29ec5033dc2df84c875decd3fc727694cd", func := "emulsion/emulsionlaw10.ExtentCounts", spec := "extentCounts", apart := false }
def ExtentCountsSaid : Prop := extentCountsRow.holds Try.pinned (OpenSpec.ofChange extentCountsSpec)

/-- ITS FALSE NEIGHBOUR: 'it returns false'. Refute it at one input. -/
def extentCountsWrong : ChangeSpec := { name := "extentCounts", fn := fun _ => fun
  | [d] => { results := [.lit (.bool false)], args := [d] }
  | _ => none }
def ExtentCountsWrongFalsely : Prop := extentCountsRow.holds Try.pinned (OpenSpec.ofChange extentCountsWrong)

/-- 'emulsionlaw10.ExtentTells': WHATEVER THE INPUT: true; the input reads as it did. -/
def extentTellsSpec : ChangeSpec := { name := "extentTells", fn := fun _ => fun
  | [d1, d2, d3, d4, d5] => { results := [.lit (.bool true)], args := [d1, d2, d3, d4, d5] }
  | _ => none }
def extentTellsRow : OpenClaim := { program := "ytmbigclkmclbdaa", sum := "0f212ece08440940bc3161b557a7df29ec5033dc2df84c875decd3fc727694cd", func := "emulsion/emulsionlaw10.ExtentTells", spec := "extentTells", apart := false }
def ExtentTellsSaid : Prop := extentTellsRow.holds Try.pinned (OpenSpec.ofChange extentTellsSpec)

/-- ITS FALSE NEIGHBOUR: 'it returns false'. Refute it at one input. -/
def extentTellsWrong : ChangeSpec := { name := "extentTells", fn := fun _ => fun
  | [d1, d2, d3, d4, d5] => { results := [.lit (.bool false)], args := [d1, d2, d3, d4, d5] }
  | _ => none }
def ExtentTellsWrongFalsely : Prop := extentTellsRow.holds Try.pinned (OpenSpec.ofChange extentTellsWrong)

/-- 'emulsionlaw17.PointMaps': WHATEVER THE INPUT: true; the input reads as it did. -/
def pointMapsSpec : ChangeSpec := { name := "pointMaps", fn := fun _ => fun
  | [d1, d2] => { results := [.lit (.bool true)], args := [d1, d2] }
  | _ => none }
def pointMapsRow : OpenClaim := { program := "ytmbigclkmclbdaa", sum := "0f212ece08440940bc3161b557a7df29ec5033dc2df84c875decd3fc727694cd", func := "emulsion/emulsionlaw17.PointMaps", spec := "pointMaps", apart := false }
def PointMapsSaid : Prop := pointMapsRow.holds Try.pinned (OpenSpec.ofChange pointMapsSpec)

/-- ITS FALSE NEIGHBOUR: 'it returns false'. Refute it at one input. -/
def pointMapsWrong : ChangeSpec := { name := "pointMaps", fn := fun _ => fun
  | [d1, d2] => { results := [.lit (.bool false)], args := [d1, d2] }
  | _ => none }
def PointMapsWrongFalsely : Prop := pointMapsRow.holds Try.pinned (OpenSpec.ofChange pointMapsWrong)

/-- 'emulsionlaw17.PointBases': WHATEVER THE INPUT: true; the input reads as it did. -/
def pointBasesSpec : ChangeSpec := { name := "pointBases", fn := fun _ => fun
  | [d1, d2, d3] => { results := [.lit (.bool true)], args := [d1, d2, d3] }
  | _ => none }
def pointBasesRow : OpenClaim := { program := "ytmbigclkmclbdaa", sum := "0f212ece08440940bc3161b557a7df29ec5033dc2df84c875decd3fc727694cd", func := "emulsion/emulsionlaw17.PointBases", spec := "pointBases", apart := false }
def PointBasesSaid : Prop := pointBasesRow.holds Try.pinned (OpenSpec.ofChange pointBasesSpec)

/-- ITS FALSE NEIGHBOUR: 'it returns false'. Refute it at one input. -/
def pointBasesWrong : ChangeSpec := { name := "pointBases", fn := fun _ => fun
  | [d1, d2, d3] => { results := [.lit (.bool false)], args := [d1, d2, d3] }
  | _ => none }
def PointBasesWrongFalsely : Prop := pointBasesRow.holds Try.pinned (OpenSpec.ofChange pointBasesWrong)

/-- 'emulsionlaw17.PointTurns': WHATEVER THE INPUT: true; the input reads as it did. -/
def pointTurnsSpec : ChangeSpec := { name := "pointTurns", fn := fun _ => fun
  | [d1, d2, d3] => { results := [.lit (.bool true)], args := [d1, d2, d3] }
  | _ => none }
def pointTurnsRow : OpenClaim := { program := "ytmbigclkmclbdaa", sum := "0f212ece08440940bc3161b557a7df29ec5033dc2df84c875decd3fc727694cd", func := "emulsion/emulsionlaw17.PointTurns", spec := "pointTurns", apart := false }
def PointTurnsSaid : Prop := pointTurnsRow.holds Try.pinned (OpenSpec.ofChange pointTurnsSpec)

/-- ITS FALSE NEIGHBOUR: 'it returns false'. Refute it at one input. -/
def pointTurnsWrong : ChangeSpec := { name := "pointTurns", fn := fun _ => fun
  | [d1, d2, d3] => { results := [.lit (.bool false)], args := [d1, d2, d3] }
  | _ => none }
def PointTurnsWrongFalsely : Prop := pointTurnsRow.holds Try.pinned (OpenSpec.ofChange pointTurnsWrong)

/-- 'emulsionlaw17.PointAdds': WHATEVER THE INPUT: true; the input reads as it did. -/
def pointAddsSpec : ChangeSpec := { name := "pointAdds", fn := fun _ => fun
  | [d1, d2, d3, d4] => { results := [.lit (.bool true)], args := [d1, d2, d3, d4] }
  | _ => none }
def pointAddsRow : OpenClaim := { program := "ytmbigclkmclbdaa", sum := "0f212ece08440940bc3161b557a7df29ec5033dc2df84c875decd3fc727694cd", func := "emulsion/emulsionlaw17.PointAdds", spec := "pointAdds", apart := false }
def PointAddsSaid : Prop := pointAddsRow.holds Try.pinned (OpenSpec.ofChange pointAddsSpec)

/-- ITS FALSE NEIGHBOUR: 'it returns false'. Refute it at one input. -/
def pointAddsWrong : ChangeSpec := { name := "pointAdds", fn := fun _ => fun
  | [d1, d2, d3, d4] => { results := [.lit (.bool false)], args := [d1, d2, d3, d4] }
  | _ => none }
def PointAddsWrongFalsely : Prop := pointAddsRow.holds Try.pinned (OpenSpec.ofChange pointAddsWrong)

/- THE SECOND FORM. 'bulk': how many values and letters a reading holds, each counted each time it is reached (what is shared counts as often as it is met; a slice's spare places count too). A statement '..UptoSaid' is the law's where the arguments, and the package variables that the reading takes, are together of bulk at most 1048576: NARROWER than '..Said'. Prove '..Said' where nothing that the law and all that it calls make is longer than what came in: it says more and counts as full. Else prove '..UptoSaid'. A law counts once. -/
mutual
def uptoBulk {H : Type} : DataW H → Nat
  | .lit (.string bytes) => bytes.length + 1
  | .lit _ => 1
  | .nil => 1
  | .ptr d => uptoBulk d + 1
  | .slice elems spare => uptoBulkAll elems + uptoBulkAll spare + 1
  | .agg parts => uptoBulkAll parts + 1
  | .iface _ d => uptoBulk d + 1
  | .map entries => uptoBulkEntries entries + 1
  | .held _ => 1
def uptoBulkAll {H : Type} : List (DataW H) → Nat
  | [] => 0
  | d :: r => uptoBulk d + uptoBulkAll r
def uptoBulkEntries {H : Type} : List (Lit × DataW H) → Nat
  | [] => 0
  | x :: r => uptoBulkEntry x + uptoBulkEntries r
def uptoBulkEntry {H : Type} : Lit × DataW H → Nat
  | (.string bytes, d) => bytes.length + uptoBulk d + 1
  | (_, d) => uptoBulk d + 1
 end
def uptoSmall : (H : Type) → List (DataW H) → Bool := fun _ ds => decide (uptoBulkAll ds ≤ 1048576)
def OpenSpec.upto (s : _root_.Go.ChangeSpec) : _root_.Go.OpenSpec := { _root_.Go.OpenSpec.ofChange s with cond := some uptoSmall }

/-- 'emulsionlaw10.ExtentOvers', WHERE WHAT IT READS IS OF BULK AT MOST 1048576: true; the input reads as it did. -/
def extentOversUptoRow : OpenClaim := { program := "ytmbigclkmclbdaa", sum := "0f212ece08440940bc3161b557a7df29ec5033dc2df84c875decd3fc727694cd", func := "emulsion/emulsionlaw10.ExtentOvers", spec := "extentOvers", apart := false, narrowed := true }
def ExtentOversUptoSaid : Prop := extentOversUptoRow.holds Try.pinned (OpenSpec.upto extentOversSpec)

/-- 'emulsionlaw10.ExtentSets', WHERE WHAT IT READS IS OF BULK AT MOST 1048576: true; the input reads as it did. -/
def extentSetsUptoRow : OpenClaim := { program := "ytmbigclkmclbdaa", sum := "0f212ece08440940bc3161b557a7df29ec5033dc2df84c875decd3fc727694cd", func := "emulsion/emulsionlaw10.ExtentSets", spec := "extentSets", apart := false, narrowed := true }
def ExtentSetsUptoSaid : Prop := extentSetsUptoRow.holds Try.pinned (OpenSpec.upto extentSetsSpec)

/-- 'emulsionlaw10.ExtentCuts', WHERE WHAT IT READS IS OF BULK AT MOST 1048576: true; the input reads as it did. -/
def extentCutsUptoRow : OpenClaim := { program := "ytmbigclkmclbdaa", sum := "0f212ece08440940bc3161b557a7df29ec5033dc2df84c875decd3fc727694cd", func := "emulsion/emulsionlaw10.ExtentCuts", spec := "extentCuts", apart := false, narrowed := true }
def ExtentCutsUptoSaid : Prop := extentCutsUptoRow.holds Try.pinned (OpenSpec.upto extentCutsSpec)

/-- 'emulsionlaw10.ExtentCounts', WHERE WHAT IT READS IS OF BULK AT MOST 1048576: true; the input reads as it did. -/
def extentCountsUptoRow : OpenClaim := { program := "ytmbigclkmclbdaa", sum := "0f212ece08440940bc3161b557a7df29ec5033dc2df84c875decd3fc727694cd", func := "emulsion/emulsionlaw10.ExtentCounts", spec := "extentCounts", apart := false, narrowed := true }
def ExtentCountsUptoSaid : Prop := extentCountsUptoRow.holds Try.pinned (OpenSpec.upto extentCountsSpec)

/-- 'emulsionlaw10.ExtentTells', WHERE WHAT IT READS IS OF BULK AT MOST 1048576: true; the input reads as it did. -/
def extentTellsUptoRow : OpenClaim := { program := "ytmbigclkmclbdaa", sum := "0f212ece08440940bc3161b557a7df29ec5033dc2df84c875decd3fc727694cd", func := "emulsion/emulsionlaw10.ExtentTells", spec := "extentTells", apart := false, narrowed := true }
def ExtentTellsUptoSaid : Prop := extentTellsUptoRow.holds Try.pinned (OpenSpec.upto extentTellsSpec)

/-- 'emulsionlaw17.PointMaps', WHERE WHAT IT READS IS OF BULK AT MOST 1048576: true; the input reads as it did. -/
def pointMapsUptoRow : OpenClaim := { program := "ytmbigclkmclbdaa", sum := "0f212ece08440940bc3161b557a7df29ec5033dc2df84c875decd3fc727694cd", func := "emulsion/emulsionlaw17.PointMaps", spec := "pointMaps", apart := false, narrowed := true }
def PointMapsUptoSaid : Prop := pointMapsUptoRow.holds Try.pinned (OpenSpec.upto pointMapsSpec)

/-- 'emulsionlaw17.PointBases', WHERE WHAT IT READS IS OF BULK AT MOST 1048576: true; the input reads as it did. -/
def pointBasesUptoRow : OpenClaim := { program := "ytmbigclkmclbdaa", sum := "0f212ece08440940bc3161b557a7df29ec5033dc2df84c875decd3fc727694cd", func := "emulsion/emulsionlaw17.PointBases", spec := "pointBases", apart := false, narrowed := true }
def PointBasesUptoSaid : Prop := pointBasesUptoRow.holds Try.pinned (OpenSpec.upto pointBasesSpec)

/-- 'emulsionlaw17.PointTurns', WHERE WHAT IT READS IS OF BULK AT MOST 1048576: true; the input reads as it did. -/
def pointTurnsUptoRow : OpenClaim := { program := "ytmbigclkmclbdaa", sum := "0f212ece08440940bc3161b557a7df29ec5033dc2df84c875decd3fc727694cd", func := "emulsion/emulsionlaw17.PointTurns", spec := "pointTurns", apart := false, narrowed := true }
def PointTurnsUptoSaid : Prop := pointTurnsUptoRow.holds Try.pinned (OpenSpec.upto pointTurnsSpec)

/-- 'emulsionlaw17.PointAdds', WHERE WHAT IT READS IS OF BULK AT MOST 1048576: true; the input reads as it did. -/
def pointAddsUptoRow : OpenClaim := { program := "ytmbigclkmclbdaa", sum := "0f212ece08440940bc3161b557a7df29ec5033dc2df84c875decd3fc727694cd", func := "emulsion/emulsionlaw17.PointAdds", spec := "pointAdds", apart := false, narrowed := true }
def PointAddsUptoSaid : Prop := pointAddsUptoRow.holds Try.pinned (OpenSpec.upto pointAddsSpec)

end Rows
end Go.Proofs.Ytmbigclkmclbdaa
