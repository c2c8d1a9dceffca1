/-
  No cell of these rows narrows 'for every input' (looked for: loops, veiled, ifaces, maps, wideKeys, modest, calm, conditions, laid).
  DERIVED. THE GIVEN ROWS OF THIS SEAT. 11 by the template 'for every input the law returns true; each argument reads behind the call as it read before'; 0 by the template 'total and deterministic' (their statements: YtacmfpkmcefcfaaTotals.lean).
  GIVEN WITH THE SEED: the statements are not yours to turn. If you find one false, say at which input.
  Laid BY PROGRAM, IN A SANDBOX (cutbox-rows.mjs): the forced cells as the released guide's own fill.sh prints them over the translation fc9cbcb36e6144db… (all of the seat's roots in one cut). By AI agents, Wed Nov 11 2026. No macro, syntax, notation, axiom, sorry.
-/
import Derived.Test.YtacmfpkmcefcfaaChecked
import GoSem.Claim
import GoSem.ClaimJoined
import GoSem.ClaimMapViews
import Derived.JoinedTies
import Derived.KernelRfl
namespace Go.Proofs.Ytacmfpkmcefcfaa
/- THE CELL 'sum', in the pinned program and in every row, IS THE sha256 OF THE DUMP (.gsa) THAT YtacmfpkmcefcfaaProg.lean LOADS. Nothing in Lean hashes anything: it is a label: what it is worth is what the hold of that sum in a sandbox is worth. -/
noncomputable def Try.pinned : Pinned := { name := "ytacmfpkmcefcfaa", sum := "fc9cbcb36e6144db622aee43a1ad203fb23a4790e30badaa394597888b3b054a", checked := Try.checked }
namespace Rows
def none {H : Type} : Left H := { results := [], args := [] }

/-- 'emulsionlaw13.OctetsNums': WHATEVER THE INPUT: true; the input reads as it did. -/
def octetsNumsSpec : ChangeSpec := { name := "octetsNums", fn := fun _ => fun
  | [d1, d2] => { results := [.lit (.bool true)], args := [d1, d2] }
  | _ => none }
def octetsNumsRow : OpenClaim := { program := "ytacmfpkmcefcfaa", sum := "fc9cbcb36e6144db622aee43a1ad203fb23a4790e30badaa394597888b3b054a", func := "emulsion/emulsionlaw13.OctetsNums", spec := "octetsNums", apart := false }
def OctetsNumsSaid : Prop := octetsNumsRow.holds Try.pinned (OpenSpec.ofChange octetsNumsSpec)

/-- ITS FALSE NEIGHBOUR: 'it returns false'. Refute it at one input. -/
def octetsNumsWrong : ChangeSpec := { name := "octetsNums", fn := fun _ => fun
  | [d1, d2] => { results := [.lit (.bool false)], args := [d1, d2] }
  | _ => none }
def OctetsNumsWrongFalsely : Prop := octetsNumsRow.holds Try.pinned (OpenSpec.ofChange octetsNumsWrong)

/-- 'emulsionlaw13.OctetsWrite': WHATEVER THE INPUT: true; the input reads as it did. -/
def octetsWriteSpec : ChangeSpec := { name := "octetsWrite", fn := fun _ => fun
  | [d] => { results := [.lit (.bool true)], args := [d] }
  | _ => none }
def octetsWriteRow : OpenClaim := { program := "ytacmfpkmcefcfaa", sum := "fc9cbcb36e6144db622aee43a1ad203fb23a4790e30badaa394597888b3b054a", func := "emulsion/emulsionlaw13.OctetsWrite", spec := "octetsWrite", apart := false }
def OctetsWriteSaid : Prop := octetsWriteRow.holds Try.pinned (OpenSpec.ofChange octetsWriteSpec)

/-- ITS FALSE NEIGHBOUR: 'it returns false'. Refute it at one input. -/
def octetsWriteWrong : ChangeSpec := { name := "octetsWrite", fn := fun _ => fun
  | [d] => { results := [.lit (.bool false)], args := [d] }
  | _ => none }
def OctetsWriteWrongFalsely : Prop := octetsWriteRow.holds Try.pinned (OpenSpec.ofChange octetsWriteWrong)

/-- 'emulsionlaw13.OctetsRead': WHATEVER THE INPUT: true; the input reads as it did. -/
def octetsReadSpec : ChangeSpec := { name := "octetsRead", fn := fun _ => fun
  | [d1, d2] => { results := [.lit (.bool true)], args := [d1, d2] }
  | _ => none }
def octetsReadRow : OpenClaim := { program := "ytacmfpkmcefcfaa", sum := "fc9cbcb36e6144db622aee43a1ad203fb23a4790e30badaa394597888b3b054a", func := "emulsion/emulsionlaw13.OctetsRead", spec := "octetsRead", apart := false }
def OctetsReadSaid : Prop := octetsReadRow.holds Try.pinned (OpenSpec.ofChange octetsReadSpec)

/-- ITS FALSE NEIGHBOUR: 'it returns false'. Refute it at one input. -/
def octetsReadWrong : ChangeSpec := { name := "octetsRead", fn := fun _ => fun
  | [d1, d2] => { results := [.lit (.bool false)], args := [d1, d2] }
  | _ => none }
def OctetsReadWrongFalsely : Prop := octetsReadRow.holds Try.pinned (OpenSpec.ofChange octetsReadWrong)

/-- 'emulsionlaw13.OctetsShort': WHATEVER THE INPUT: true; the input reads as it did. -/
def octetsShortSpec : ChangeSpec := { name := "octetsShort", fn := fun _ => fun
  | [d1, d2, d3] => { results := [.lit (.bool true)], args := [d1, d2, d3] }
  | _ => none }
def octetsShortRow : OpenClaim := { program := "ytacmfpkmcefcfaa", sum := "fc9cbcb36e6144db622aee43a1ad203fb23a4790e30badaa394597888b3b054a", func := "emulsion/emulsionlaw13.OctetsShort", spec := "octetsShort", apart := false }
def OctetsShortSaid : Prop := octetsShortRow.holds Try.pinned (OpenSpec.ofChange octetsShortSpec)

/-- ITS FALSE NEIGHBOUR: 'it returns false'. Refute it at one input. -/
def octetsShortWrong : ChangeSpec := { name := "octetsShort", fn := fun _ => fun
  | [d1, d2, d3] => { results := [.lit (.bool false)], args := [d1, d2, d3] }
  | _ => none }
def OctetsShortWrongFalsely : Prop := octetsShortRow.holds Try.pinned (OpenSpec.ofChange octetsShortWrong)

/-- 'emulsionlaw13.OctetsBack': WHATEVER THE INPUT: true; the input reads as it did. -/
def octetsBackSpec : ChangeSpec := { name := "octetsBack", fn := fun _ => fun
  | [d] => { results := [.lit (.bool true)], args := [d] }
  | _ => none }
def octetsBackRow : OpenClaim := { program := "ytacmfpkmcefcfaa", sum := "fc9cbcb36e6144db622aee43a1ad203fb23a4790e30badaa394597888b3b054a", func := "emulsion/emulsionlaw13.OctetsBack", spec := "octetsBack", apart := false }
def OctetsBackSaid : Prop := octetsBackRow.holds Try.pinned (OpenSpec.ofChange octetsBackSpec)

/-- ITS FALSE NEIGHBOUR: 'it returns false'. Refute it at one input. -/
def octetsBackWrong : ChangeSpec := { name := "octetsBack", fn := fun _ => fun
  | [d] => { results := [.lit (.bool false)], args := [d] }
  | _ => none }
def OctetsBackWrongFalsely : Prop := octetsBackRow.holds Try.pinned (OpenSpec.ofChange octetsBackWrong)

/-- 'emulsionlaw15.LeafTells': WHATEVER THE INPUT: true; the input reads as it did. -/
def leafTellsSpec : ChangeSpec := { name := "leafTells", fn := fun _ => fun
  | [d1, d2, d3] => { results := [.lit (.bool true)], args := [d1, d2, d3] }
  | _ => none }
def leafTellsRow : OpenClaim := { program := "ytacmfpkmcefcfaa", sum := "fc9cbcb36e6144db622aee43a1ad203fb23a4790e30badaa394597888b3b054a", func := "emulsion/emulsionlaw15.LeafTells", spec := "leafTells", inPlace := ["internal/abi.NoEscape", "internal/bytealg.MakeNoZero"], apart := false }
def LeafTellsSaid : Prop := leafTellsRow.holds Try.pinned (OpenSpec.ofChange leafTellsSpec)

/-- ITS FALSE NEIGHBOUR: 'it returns false'. Refute it at one input. -/
def leafTellsWrong : ChangeSpec := { name := "leafTells", fn := fun _ => fun
  | [d1, d2, d3] => { results := [.lit (.bool false)], args := [d1, d2, d3] }
  | _ => none }
def LeafTellsWrongFalsely : Prop := leafTellsRow.holds Try.pinned (OpenSpec.ofChange leafTellsWrong)

/-- 'emulsionlaw15.LeafBack': WHATEVER THE INPUT: true; the input reads as it did. -/
def leafBackSpec : ChangeSpec := { name := "leafBack", fn := fun _ => fun
  | [d] => { results := [.lit (.bool true)], args := [d] }
  | _ => none }
def leafBackRow : OpenClaim := { program := "ytacmfpkmcefcfaa", sum := "fc9cbcb36e6144db622aee43a1ad203fb23a4790e30badaa394597888b3b054a", func := "emulsion/emulsionlaw15.LeafBack", spec := "leafBack", inPlace := ["internal/abi.NoEscape", "internal/bytealg.MakeNoZero"], apart := false }
def LeafBackSaid : Prop := leafBackRow.holds Try.pinned (OpenSpec.ofChange leafBackSpec)

/-- ITS FALSE NEIGHBOUR: 'it returns false'. Refute it at one input. -/
def leafBackWrong : ChangeSpec := { name := "leafBack", fn := fun _ => fun
  | [d] => { results := [.lit (.bool false)], args := [d] }
  | _ => none }
def LeafBackWrongFalsely : Prop := leafBackRow.holds Try.pinned (OpenSpec.ofChange leafBackWrong)

/-- 'emulsionlaw15.LeafParts': WHATEVER THE INPUT: true; the input reads as it did. -/
def leafPartsSpec : ChangeSpec := { name := "leafParts", fn := fun _ => fun
  | [d] => { results := [.lit (.bool true)], args := [d] }
  | _ => none }
def leafPartsRow : OpenClaim := { program := "ytacmfpkmcefcfaa", sum := "fc9cbcb36e6144db622aee43a1ad203fb23a4790e30badaa394597888b3b054a", func := "emulsion/emulsionlaw15.LeafParts", spec := "leafParts", inPlace := ["internal/abi.NoEscape", "internal/bytealg.MakeNoZero"], apart := false }
def LeafPartsSaid : Prop := leafPartsRow.holds Try.pinned (OpenSpec.ofChange leafPartsSpec)

/-- ITS FALSE NEIGHBOUR: 'it returns false'. Refute it at one input. -/
def leafPartsWrong : ChangeSpec := { name := "leafParts", fn := fun _ => fun
  | [d] => { results := [.lit (.bool false)], args := [d] }
  | _ => none }
def LeafPartsWrongFalsely : Prop := leafPartsRow.holds Try.pinned (OpenSpec.ofChange leafPartsWrong)

/-- 'emulsionlaw15.LeafSlots': WHATEVER THE INPUT: true; the input reads as it did. -/
def leafSlotsSpec : ChangeSpec := { name := "leafSlots", fn := fun _ => fun
  | [d1, d2, d3] => { results := [.lit (.bool true)], args := [d1, d2, d3] }
  | _ => none }
def leafSlotsRow : OpenClaim := { program := "ytacmfpkmcefcfaa", sum := "fc9cbcb36e6144db622aee43a1ad203fb23a4790e30badaa394597888b3b054a", func := "emulsion/emulsionlaw15.LeafSlots", spec := "leafSlots", inPlace := ["internal/abi.NoEscape", "internal/bytealg.MakeNoZero"], apart := false }
def LeafSlotsSaid : Prop := leafSlotsRow.holds Try.pinned (OpenSpec.ofChange leafSlotsSpec)

/-- ITS FALSE NEIGHBOUR: 'it returns false'. Refute it at one input. -/
def leafSlotsWrong : ChangeSpec := { name := "leafSlots", fn := fun _ => fun
  | [d1, d2, d3] => { results := [.lit (.bool false)], args := [d1, d2, d3] }
  | _ => none }
def LeafSlotsWrongFalsely : Prop := leafSlotsRow.holds Try.pinned (OpenSpec.ofChange leafSlotsWrong)

/-- 'emulsionlaw15.LeafChanged': WHATEVER THE INPUT: true; the input reads as it did. -/
def leafChangedSpec : ChangeSpec := { name := "leafChanged", fn := fun _ => fun
  | [d1, d2, d3, d4] => { results := [.lit (.bool true)], args := [d1, d2, d3, d4] }
  | _ => none }
def leafChangedRow : OpenClaim := { program := "ytacmfpkmcefcfaa", sum := "fc9cbcb36e6144db622aee43a1ad203fb23a4790e30badaa394597888b3b054a", func := "emulsion/emulsionlaw15.LeafChanged", spec := "leafChanged", inPlace := ["internal/abi.NoEscape", "internal/bytealg.MakeNoZero"], apart := false }
def LeafChangedSaid : Prop := leafChangedRow.holds Try.pinned (OpenSpec.ofChange leafChangedSpec)

/-- ITS FALSE NEIGHBOUR: 'it returns false'. Refute it at one input. -/
def leafChangedWrong : ChangeSpec := { name := "leafChanged", fn := fun _ => fun
  | [d1, d2, d3, d4] => { results := [.lit (.bool false)], args := [d1, d2, d3, d4] }
  | _ => none }
def LeafChangedWrongFalsely : Prop := leafChangedRow.holds Try.pinned (OpenSpec.ofChange leafChangedWrong)

/-- 'emulsionlaw15.LeafApart': WHATEVER THE INPUT: true; the input reads as it did. -/
def leafApartSpec : ChangeSpec := { name := "leafApart", fn := fun _ => fun
  | [d1, d2] => { results := [.lit (.bool true)], args := [d1, d2] }
  | _ => none }
def leafApartRow : OpenClaim := { program := "ytacmfpkmcefcfaa", sum := "fc9cbcb36e6144db622aee43a1ad203fb23a4790e30badaa394597888b3b054a", func := "emulsion/emulsionlaw15.LeafApart", spec := "leafApart", inPlace := ["internal/abi.NoEscape", "internal/bytealg.MakeNoZero"], apart := false }
def LeafApartSaid : Prop := leafApartRow.holds Try.pinned (OpenSpec.ofChange leafApartSpec)

/-- ITS FALSE NEIGHBOUR: 'it returns false'. Refute it at one input. -/
def leafApartWrong : ChangeSpec := { name := "leafApart", fn := fun _ => fun
  | [d1, d2] => { results := [.lit (.bool false)], args := [d1, d2] }
  | _ => none }
def LeafApartWrongFalsely : Prop := leafApartRow.holds Try.pinned (OpenSpec.ofChange leafApartWrong)

/- THE SECOND FORM. 'bulk': how many values and letters a reading holds, each counted each time it is reached (what is shared counts as often as it is met; a slice's spare places count too). A statement '..UptoSaid' is the law's where the arguments, and the package variables that the reading takes, are together of bulk at most 1048576: NARROWER than '..Said'. Prove '..Said' where nothing that the law and all that it calls make is longer than what came in: it says more and counts as full. Else prove '..UptoSaid'. A law counts once. -/
mutual
def uptoBulk {H : Type} : DataW H → Nat
  | .lit (.string bytes) => bytes.length + 1
  | .lit _ => 1
  | .nil => 1
  | .ptr d => uptoBulk d + 1
  | .slice elems spare => uptoBulkAll elems + uptoBulkAll spare + 1
  | .agg parts => uptoBulkAll parts + 1
  | .iface _ d => uptoBulk d + 1
  | .map entries => uptoBulkEntries entries + 1
  | .held _ => 1
def uptoBulkAll {H : Type} : List (DataW H) → Nat
  | [] => 0
  | d :: r => uptoBulk d + uptoBulkAll r
def uptoBulkEntries {H : Type} : List (Lit × DataW H) → Nat
  | [] => 0
  | x :: r => uptoBulkEntry x + uptoBulkEntries r
def uptoBulkEntry {H : Type} : Lit × DataW H → Nat
  | (.string bytes, d) => bytes.length + uptoBulk d + 1
  | (_, d) => uptoBulk d + 1
 end
def uptoSmall : (H : Type) → List (DataW H) → Bool := fun _ ds => decide (uptoBulkAll ds ≤ 1048576)
def OpenSpec.upto (s : _root_.Go.ChangeSpec) : _root_.Go.OpenSpec := { _root_.Go.OpenSpec.ofChange s with cond := some uptoSmall }

/-- 'emulsionlaw13.OctetsNums', WHERE WHAT IT READS IS OF BULK AT MOST 1048576: true; the input reads as it did. -/
def octetsNumsUptoRow : OpenClaim := { program := "ytacmfpkmcefcfaa", sum := "fc9cbcb36e6144db622aee43a1ad203fb23a4790e30badaa394597888b3b054a", func := "emulsion/emulsionlaw13.OctetsNums", spec := "octetsNums", apart := false, narrowed := true }
def OctetsNumsUptoSaid : Prop := octetsNumsUptoRow.holds Try.pinned (OpenSpec.upto octetsNumsSpec)

/-- 'emulsionlaw13.OctetsWrite', WHERE WHAT IT READS IS OF BULK AT MOST 1048576: true; the input reads as it did. -/
def octetsWriteUptoRow : OpenClaim := { program := "ytacmfpkmcefcfaa", sum := "fc9cbcb36e6144db622aee43a1ad203fb23a4790e30badaa394597888b3b054a", func := "emulsion/emulsionlaw13.OctetsWrite", spec := "octetsWrite", apart := false, narrowed := true }
def OctetsWriteUptoSaid : Prop := octetsWriteUptoRow.holds Try.pinned (OpenSpec.upto octetsWriteSpec)

/-- 'emulsionlaw13.OctetsRead', WHERE WHAT IT READS IS OF BULK AT MOST 1048576: true; the input reads as it did. -/
def octetsReadUptoRow : OpenClaim := { program := "ytacmfpkmcefcfaa", sum := "fc9cbcb36e6144db622aee43a1ad203fb23a4790e30badaa394597888b3b054a", func := "emulsion/emulsionlaw13.OctetsRead", spec := "octetsRead", apart := false, narrowed := true }
def OctetsReadUptoSaid : Prop := octetsReadUptoRow.holds Try.pinned (OpenSpec.upto octetsReadSpec)

/-- 'emulsionlaw13.OctetsShort', WHERE WHAT IT READS IS OF BULK AT MOST 1048576: true; the input reads as it did. -/
def octetsShortUptoRow : OpenClaim := { program := "ytacmfpkmcefcfaa", sum := "fc9cbcb36e6144db622aee43a1ad203fb23a4790e30badaa394597888b3b054a", func := "emulsion/emulsionlaw13.OctetsShort", spec := "octetsShort", apart := false, narrowed := true }
def OctetsShortUptoSaid : Prop := octetsShortUptoRow.holds Try.pinned (OpenSpec.upto octetsShortSpec)

/-- 'emulsionlaw13.OctetsBack', WHERE WHAT IT READS IS OF BULK AT MOST 1048576: true; the input reads as it did. -/
def octetsBackUptoRow : OpenClaim := { program := "ytacmfpkmcefcfaa", sum := "fc9cbcb36e6144db622aee43a1ad203fb23a4790e30badaa394597888b3b054a", func := "emulsion/emulsionlaw13.OctetsBack", spec := "octetsBack", apart := false, narrowed := true }
def OctetsBackUptoSaid : Prop := octetsBackUptoRow.holds Try.pinned (OpenSpec.upto octetsBackSpec)

/-- 'emulsionlaw15.LeafTells', WHERE WHAT IT READS IS OF BULK AT MOST 1048576: true; the input reads as it did. -/
def leafTellsUptoRow : OpenClaim := { program := "ytacmfpkmcefcfaa", sum := "fc9cbcb36e6144db622aee43a1ad203fb23a4790e30badaa394597888b3b054a", func := "emulsion/emulsionlaw15.LeafTells", spec := "leafTells", inPlace := ["internal/abi.NoEscape", "internal/bytealg.MakeNoZero"], apart := false, narrowed := true }
def LeafTellsUptoSaid : Prop := leafTellsUptoRow.holds Try.pinned (OpenSpec.upto leafTellsSpec)

/-- 'emulsionlaw15.LeafBack', WHERE WHAT IT READS IS OF BULK AT MOST 1048576: true; the input reads as it did. -/
def leafBackUptoRow : OpenClaim := { program := "ytacmfpkmcefcfaa", sum := "fc9cbcb36e6144db622aee43a1ad203fb23a4790e30badaa394597888b3b054a", func := "emulsion/emulsionlaw15.LeafBack", spec := "leafBack", inPlace := ["internal/abi.NoEscape", "internal/bytealg.MakeNoZero"], apart := false, narrowed := true }
def LeafBackUptoSaid : Prop := leafBackUptoRow.holds Try.pinned (OpenSpec.upto leafBackSpec)

/-- 'emulsionlaw15.LeafParts', WHERE WHAT IT READS IS OF BULK AT MOST 1048576: true; the input reads as it did. -/
def leafPartsUptoRow : OpenClaim := { program := "ytacmfpkmcefcfaa", sum := "fc9cbcb36e6144db622aee43a1ad203fb23a4790e30badaa394597888b3b054a", func := "emulsion/emulsionlaw15.LeafParts", spec := "leafParts", inPlace := ["internal/abi.NoEscape", "internal/bytealg.MakeNoZero"], apart := false, narrowed := true }
def LeafPartsUptoSaid : Prop := leafPartsUptoRow.holds Try.pinned (OpenSpec.upto leafPartsSpec)

/-- 'emulsionlaw15.LeafSlots', WHERE WHAT IT READS IS OF BULK AT MOST 1048576: true; the input reads as it did. -/
def leafSlotsUptoRow : OpenClaim := { program := "ytacmfpkmcefcfaa", sum := "fc9cbcb36e6144db622aee43a1ad203fb23a4790e30badaa394597888b3b054a", func := "emulsion/emulsionlaw15.LeafSlots", spec := "leafSlots", inPlace := ["internal/abi.NoEscape", "internal/bytealg.MakeNoZero"], apart := false, narrowed := true }
def LeafSlotsUptoSaid : Prop := leafSlotsUptoRow.holds Try.pinned (OpenSpec.upto leafSlotsSpec)

/-- 'emulsionlaw15.LeafChanged', WHERE WHAT IT READS IS OF BULK AT MOST 1048576: true; the input reads as it did. -/
def leafChangedUptoRow : OpenClaim := { program := "ytacmfpkmcefcfaa", sum := "fc9cbcb36e6144db622aee43a1ad203fb23a4790e30badaa394597888b3b054a", func := "emulsion/emulsionlaw15.LeafChanged", spec := "leafChanged", inPlace := ["internal/abi.NoEscape", "internal/bytealg.MakeNoZero"], apart := false, narrowed := true }
def LeafChangedUptoSaid : Prop := leafChangedUptoRow.holds Try.pinned (OpenSpec.upto leafChangedSpec)

/-- 'emulsionlaw15.LeafApart', WHERE WHAT IT READS IS OF BULK AT MOST 1048576: true; the input reads as it did. -/
def leafApartUptoRow : OpenClaim := { program := "ytacmfpkmcefcfaa", sum := "fc9cbcb36e6144db622aee43a1ad203fb23a4790e30badaa394597888b3b054a", func := "emulsion/emulsionlaw15.LeafApart", spec := "leafApart", inPlace := ["internal/abi.NoEscape", "internal/bytealg.MakeNoZero"], apart := false, narrowed := true }
def LeafApartUptoSaid : Prop := leafApartUptoRow.holds Try.pinned (OpenSpec.upto leafApartSpec)

end Rows
end Go.Proofs.Ytacmfpkmcefcfaa
