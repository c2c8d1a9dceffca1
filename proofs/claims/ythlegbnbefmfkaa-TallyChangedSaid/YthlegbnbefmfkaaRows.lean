/-
  No cell of these rows narrows 'for every input' (looked for: loops, veiled, ifaces, maps, wideKeys, modest, calm, conditions, laid).
  DERIVED. THE GIVEN ROWS OF THIS SEAT. 10 by the template 'for every input the law returns true; each argument reads behind the call as it read before'; 0 by the template 'total and deterministic' (their statements: YthlegbnbefmfkaaTotals.lean).
  GIVEN WITH THE SEED: the statements are not yours to turn. If you find one false, say at which input.
  Laid BY PROGRAM, IN A SANDBOX (cutbox-rows.mjs): the forced cells as the released guide's own fill.sh prints them over the translation 560850cea5acd170… (all of the seat's roots in one cut). By AI agents, Wed Nov 11 2026. No macro, syntax, notation, axiom, sorry.
-/
import Derived.Test.YthlegbnbefmfkaaChecked
import GoSem.Claim
import GoSem.ClaimJoined
import GoSem.ClaimMapViews
import Derived.JoinedTies
import Derived.KernelRfl
namespace Go.Proofs.Ythlegbnbefmfkaa
/- THE CELL 'sum', in the pinned program and in every row, IS THE sha256 OF THE DUMP (.gsa) THAT YthlegbnbefmfkaaProg.lean LOADS. Nothing in Lean hashes anything: it is a label: what it is worth is what the hold of that sum in a sandbox is worth. -/
noncomputable def Try.pinned : Pinned := { name := "ythlegbnbefmfkaa", sum := "560850cea5acd170f54442a483e4395ac694e0031d828bbefe3c14c337c5199f", checked := Try.checked }
namespace Rows
def none {H : Type} : Left H := { results := [], args := [] }

/-- 'emulsionlaw7.PrintTells': WHATEVER THE INPUT: true; the input reads as it did. -/
def printTellsSpec : ChangeSpec := { name := "printTells", fn := fun _ => fun
  | [d1, d2, d3, d4] => { results := [.lit (.bool true)], args := [d1, d2, d3, d4] }
  | _ => none }
def printTellsRow : OpenClaim := { program := "ythlegbnbefmfkaa", sum := "560850cea5acd170f54442a483e4395ac694e0031d828bbefe3c14c337c5199f", func := "emulsion/emulsionlaw7.PrintTells", spec := "printTells", apart := false }
def PrintTellsSaid : Prop := printTellsRow.holds Try.pinned (OpenSpec.ofChange printTellsSpec)

/-- ITS FALSE NEIGHBOUR: 'it returns false'. Refute it at one input. -/
def printTellsWrong : ChangeSpec := { name := "printTells", fn := fun _ => fun
  | [d1, d2, d3, d4] => { results := [.lit (.bool false)], args := [d1, d2, d3, d4] }
  | _ => none }
def PrintTellsWrongFalsely : Prop := printTellsRow.holds Try.pinned (OpenSpec.ofChange printTellsWrong)

/-- 'emulsionlaw7.PrintTurns': WHATEVER THE INPUT: true; the input reads as it did. -/
def printTurnsSpec : ChangeSpec := { name := "printTurns", fn := fun _ => fun
  | [d1, d2, d3] => { results := [.lit (.bool true)], args := [d1, d2, d3] }
  | _ => none }
def printTurnsRow : OpenClaim := { program := "ythlegbnbefmfkaa", sum := "560850cea5acd170f54442a483e4395ac694e0031d828bbefe3c14c337c5199f", func := "emulsion/emulsionlaw7.PrintTurns", spec := "printTurns", apart := false }
def PrintTurnsSaid : Prop := printTurnsRow.holds Try.pinned (OpenSpec.ofChange printTurnsSpec)

/-- ITS FALSE NEIGHBOUR: 'it returns false'. Refute it at one input. -/
def printTurnsWrong : ChangeSpec := { name := "printTurns", fn := fun _ => fun
  | [d1, d2, d3] => { results := [.lit (.bool false)], args := [d1, d2, d3] }
  | _ => none }
def PrintTurnsWrongFalsely : Prop := printTurnsRow.holds Try.pinned (OpenSpec.ofChange printTurnsWrong)

/-- 'emulsionlaw7.PrintMixes': WHATEVER THE INPUT: true; the input reads as it did. -/
def printMixesSpec : ChangeSpec := { name := "printMixes", fn := fun _ => fun
  | [d1, d2, d3] => { results := [.lit (.bool true)], args := [d1, d2, d3] }
  | _ => none }
def printMixesRow : OpenClaim := { program := "ythlegbnbefmfkaa", sum := "560850cea5acd170f54442a483e4395ac694e0031d828bbefe3c14c337c5199f", func := "emulsion/emulsionlaw7.PrintMixes", spec := "printMixes", apart := false }
def PrintMixesSaid : Prop := printMixesRow.holds Try.pinned (OpenSpec.ofChange printMixesSpec)

/-- ITS FALSE NEIGHBOUR: 'it returns false'. Refute it at one input. -/
def printMixesWrong : ChangeSpec := { name := "printMixes", fn := fun _ => fun
  | [d1, d2, d3] => { results := [.lit (.bool false)], args := [d1, d2, d3] }
  | _ => none }
def PrintMixesWrongFalsely : Prop := printMixesRow.holds Try.pinned (OpenSpec.ofChange printMixesWrong)

/-- 'emulsionlaw7.PrintLengths': WHATEVER THE INPUT: true; the input reads as it did. -/
def printLengthsSpec : ChangeSpec := { name := "printLengths", fn := fun _ => fun
  | [d] => { results := [.lit (.bool true)], args := [d] }
  | _ => none }
def printLengthsRow : OpenClaim := { program := "ythlegbnbefmfkaa", sum := "560850cea5acd170f54442a483e4395ac694e0031d828bbefe3c14c337c5199f", func := "emulsion/emulsionlaw7.PrintLengths", spec := "printLengths", apart := false }
def PrintLengthsSaid : Prop := printLengthsRow.holds Try.pinned (OpenSpec.ofChange printLengthsSpec)

/-- ITS FALSE NEIGHBOUR: 'it returns false'. Refute it at one input. -/
def printLengthsWrong : ChangeSpec := { name := "printLengths", fn := fun _ => fun
  | [d] => { results := [.lit (.bool false)], args := [d] }
  | _ => none }
def PrintLengthsWrongFalsely : Prop := printLengthsRow.holds Try.pinned (OpenSpec.ofChange printLengthsWrong)

/-- 'emulsionlaw7.PrintBuckets': WHATEVER THE INPUT: true; the input reads as it did. -/
def printBucketsSpec : ChangeSpec := { name := "printBuckets", fn := fun _ => fun
  | [d1, d2] => { results := [.lit (.bool true)], args := [d1, d2] }
  | _ => none }
def printBucketsRow : OpenClaim := { program := "ythlegbnbefmfkaa", sum := "560850cea5acd170f54442a483e4395ac694e0031d828bbefe3c14c337c5199f", func := "emulsion/emulsionlaw7.PrintBuckets", spec := "printBuckets", apart := false }
def PrintBucketsSaid : Prop := printBucketsRow.holds Try.pinned (OpenSpec.ofChange printBucketsSpec)

/-- ITS FALSE NEIGHBOUR: 'it returns false'. Refute it at one input. -/
def printBucketsWrong : ChangeSpec := { name := "printBuckets", fn := fun _ => fun
  | [d1, d2] => { results := [.lit (.bool false)], args := [d1, d2] }
  | _ => none }
def PrintBucketsWrongFalsely : Prop := printBucketsRow.holds Try.pinned (OpenSpec.ofChange printBucketsWrong)

/-- 'emulsionlaw12.TallyTells': WHATEVER THE INPUT: true; the input reads as it did. -/
def tallyTellsSpec : ChangeSpec := { name := "tallyTells", fn := fun _ => fun
  | [d1, d2] => { results := [.lit (.bool true)], args := [d1, d2] }
  | _ => none }
def tallyTellsRow : OpenClaim := { program := "ythlegbnbefmfkaa", sum := "560850cea5acd170f54442a483e4395ac694e0031d828bbefe3c14c337c5199f", func := "emulsion/emulsionlaw12.TallyTells", spec := "tallyTells", apart := false }
def TallyTellsSaid : Prop := tallyTellsRow.holds Try.pinned (OpenSpec.ofChange tallyTellsSpec)

/-- ITS FALSE NEIGHBOUR: 'it returns false'. Refute it at one input. -/
def tallyTellsWrong : ChangeSpec := { name := "tallyTells", fn := fun _ => fun
  | [d1, d2] => { results := [.lit (.bool false)], args := [d1, d2] }
  | _ => none }
def TallyTellsWrongFalsely : Prop := tallyTellsRow.holds Try.pinned (OpenSpec.ofChange tallyTellsWrong)

/-- 'emulsionlaw12.TallyChanged': WHATEVER THE INPUT: true; the input reads as it did. -/
def tallyChangedSpec : ChangeSpec := { name := "tallyChanged", fn := fun _ => fun
  | [d1, d2, d3] => { results := [.lit (.bool true)], args := [d1, d2, d3] }
  | _ => none }
def tallyChangedRow : OpenClaim := { program := "ythlegbnbefmfkaa", sum := "560850cea5acd170f54442a483e4395ac694e0031d828bbefe3c14c337c5199f", func := "emulsion/emulsionlaw12.TallyChanged", spec := "tallyChanged", apart := false }
def TallyChangedSaid : Prop := tallyChangedRow.holds Try.pinned (OpenSpec.ofChange tallyChangedSpec)

/-- ITS FALSE NEIGHBOUR: 'it returns false'. Refute it at one input. -/
def tallyChangedWrong : ChangeSpec := { name := "tallyChanged", fn := fun _ => fun
  | [d1, d2, d3] => { results := [.lit (.bool false)], args := [d1, d2, d3] }
  | _ => none }
def TallyChangedWrongFalsely : Prop := tallyChangedRow.holds Try.pinned (OpenSpec.ofChange tallyChangedWrong)

/-- 'emulsionlaw12.TallyParts': WHATEVER THE INPUT: true; the input reads as it did. -/
def tallyPartsSpec : ChangeSpec := { name := "tallyParts", fn := fun _ => fun
  | [d1, d2, d3] => { results := [.lit (.bool true)], args := [d1, d2, d3] }
  | _ => none }
def tallyPartsRow : OpenClaim := { program := "ythlegbnbefmfkaa", sum := "560850cea5acd170f54442a483e4395ac694e0031d828bbefe3c14c337c5199f", func := "emulsion/emulsionlaw12.TallyParts", spec := "tallyParts", apart := false }
def TallyPartsSaid : Prop := tallyPartsRow.holds Try.pinned (OpenSpec.ofChange tallyPartsSpec)

/-- ITS FALSE NEIGHBOUR: 'it returns false'. Refute it at one input. -/
def tallyPartsWrong : ChangeSpec := { name := "tallyParts", fn := fun _ => fun
  | [d1, d2, d3] => { results := [.lit (.bool false)], args := [d1, d2, d3] }
  | _ => none }
def TallyPartsWrongFalsely : Prop := tallyPartsRow.holds Try.pinned (OpenSpec.ofChange tallyPartsWrong)

/-- 'emulsionlaw12.TallySeals': WHATEVER THE INPUT: true; the input reads as it did. -/
def tallySealsSpec : ChangeSpec := { name := "tallySeals", fn := fun _ => fun
  | [d1, d2] => { results := [.lit (.bool true)], args := [d1, d2] }
  | _ => none }
def tallySealsRow : OpenClaim := { program := "ythlegbnbefmfkaa", sum := "560850cea5acd170f54442a483e4395ac694e0031d828bbefe3c14c337c5199f", func := "emulsion/emulsionlaw12.TallySeals", spec := "tallySeals", apart := false }
def TallySealsSaid : Prop := tallySealsRow.holds Try.pinned (OpenSpec.ofChange tallySealsSpec)

/-- ITS FALSE NEIGHBOUR: 'it returns false'. Refute it at one input. -/
def tallySealsWrong : ChangeSpec := { name := "tallySeals", fn := fun _ => fun
  | [d1, d2] => { results := [.lit (.bool false)], args := [d1, d2] }
  | _ => none }
def TallySealsWrongFalsely : Prop := tallySealsRow.holds Try.pinned (OpenSpec.ofChange tallySealsWrong)

/-- 'emulsionlaw12.TallyHalves': WHATEVER THE INPUT: true; the input reads as it did. -/
def tallyHalvesSpec : ChangeSpec := { name := "tallyHalves", fn := fun _ => fun
  | [d] => { results := [.lit (.bool true)], args := [d] }
  | _ => none }
def tallyHalvesRow : OpenClaim := { program := "ythlegbnbefmfkaa", sum := "560850cea5acd170f54442a483e4395ac694e0031d828bbefe3c14c337c5199f", func := "emulsion/emulsionlaw12.TallyHalves", spec := "tallyHalves", apart := false }
def TallyHalvesSaid : Prop := tallyHalvesRow.holds Try.pinned (OpenSpec.ofChange tallyHalvesSpec)

/-- ITS FALSE NEIGHBOUR: 'it returns false'. Refute it at one input. -/
def tallyHalvesWrong : ChangeSpec := { name := "tallyHalves", fn := fun _ => fun
  | [d] => { results := [.lit (.bool false)], args := [d] }
  | _ => none }
def TallyHalvesWrongFalsely : Prop := tallyHalvesRow.holds Try.pinned (OpenSpec.ofChange tallyHalvesWrong)

/- THE SECOND FORM. 'bulk': how many values and letters a reading holds, each counted each time it is reached (what is shared counts as often as it is met; a slice's spare places count too). A statement '..UptoSaid' is the law's where the arguments, and the package variables that the reading takes, are together of bulk at most 1048576: NARROWER than '..Said'. Prove '..Said' where nothing that the law and all that it calls make is longer than what came in: it says more and counts as full. Else prove '..UptoSaid'. A law counts once. -/
mutual
def uptoBulk {H : Type} : DataW H → Nat
  | .lit (.string bytes) => bytes.length + 1
  | .lit _ => 1
  | .nil => 1
  | .ptr d => uptoBulk d + 1
  | .slice elems spare => uptoBulkAll elems + uptoBulkAll spare + 1
  | .agg parts => uptoBulkAll parts + 1
  | .iface _ d => uptoBulk d + 1
  | .map entries => uptoBulkEntries entries + 1
  | .held _ => 1
def uptoBulkAll {H : Type} : List (DataW H) → Nat
  | [] => 0
  | d :: r => uptoBulk d + uptoBulkAll r
def uptoBulkEntries {H : Type} : List (Lit × DataW H) → Nat
  | [] => 0
  | x :: r => uptoBulkEntry x + uptoBulkEntries r
def uptoBulkEntry {H : Type} : Lit × DataW H → Nat
  | (.string bytes, d) => bytes.length + uptoBulk d + 1
  | (_, d) => uptoBulk d + 1
 end
def uptoSmall : (H : Type) → List (DataW H) → Bool := fun _ ds => decide (uptoBulkAll ds ≤ 1048576)
def OpenSpec.upto (s : _root_.Go.ChangeSpec) : _root_.Go.OpenSpec := { _root_.Go.OpenSpec.ofChange s with cond := some uptoSmall }

/-- 'emulsionlaw7.PrintTells', WHERE WHAT IT READS IS OF BULK AT MOST 1048576: true; the input reads as it did. -/
def printTellsUptoRow : OpenClaim := { program := "ythlegbnbefmfkaa", sum := "560850cea5acd170f54442a483e4395ac694e0031d828bbefe3c14c337c5199f", func := "emulsion/emulsionlaw7.PrintTells", spec := "printTells", apart := false, narrowed := true }
def PrintTellsUptoSaid : Prop := printTellsUptoRow.holds Try.pinned (OpenSpec.upto printTellsSpec)

/-- 'emulsionlaw7.PrintTurns', WHERE WHAT IT READS IS OF BULK AT MOST 1048576: true; the input reads as it did. -/
def printTurnsUptoRow : OpenClaim := { program := "ythlegbnbefmfkaa", sum := "560850cea5acd170f54442a483e4395ac694e0031d828bbefe3c14c337c5199f", func := "emulsion/emulsionlaw7.PrintTurns", spec := "printTurns", apart := false, narrowed := true }
def PrintTurnsUptoSaid : Prop := printTurnsUptoRow.holds Try.pinned (OpenSpec.upto printTurnsSpec)

/-- 'emulsionlaw7.PrintMixes', WHERE WHAT IT READS IS OF BULK AT MOST 1048576: true; the input reads as it did. -/
def printMixesUptoRow : OpenClaim := { program := "ythlegbnbefmfkaa", sum := "560850cea5acd170f54442a483e4395ac694e0031d828bbefe3c14c337c5199f", func := "emulsion/emulsionlaw7.PrintMixes", spec := "printMixes", apart := false, narrowed := true }
def PrintMixesUptoSaid : Prop := printMixesUptoRow.holds Try.pinned (OpenSpec.upto printMixesSpec)

/-- 'emulsionlaw7.PrintLengths', WHERE WHAT IT READS IS OF BULK AT MOST 1048576: true; the input reads as it did. -/
def printLengthsUptoRow : OpenClaim := { program := "ythlegbnbefmfkaa", sum := "560850cea5acd170f54442a483e4395ac694e0031d828bbefe3c14c337c5199f", func := "emulsion/emulsionlaw7.PrintLengths", spec := "printLengths", apart := false, narrowed := true }
def PrintLengthsUptoSaid : Prop := printLengthsUptoRow.holds Try.pinned (OpenSpec.upto printLengthsSpec)

/-- 'emulsionlaw7.PrintBuckets', WHERE WHAT IT READS IS OF BULK AT MOST 1048576: true; the input reads as it did. -/
def printBucketsUptoRow : OpenClaim := { program := "ythlegbnbefmfkaa", sum := "560850cea5acd170f54442a483e4395ac694e0031d828bbefe3c14c337c5199f", func := "emulsion/emulsionlaw7.PrintBuckets", spec := "printBuckets", apart := false, narrowed := true }
def PrintBucketsUptoSaid : Prop := printBucketsUptoRow.holds Try.pinned (OpenSpec.upto printBucketsSpec)

/-- 'emulsionlaw12.TallyTells', WHERE WHAT IT READS IS OF BULK AT MOST 1048576: true; the input reads as it did. -/
def tallyTellsUptoRow : OpenClaim := { program := "ythlegbnbefmfkaa", sum := "560850cea5acd170f54442a483e4395ac694e0031d828bbefe3c14c337c5199f", func := "emulsion/emulsionlaw12.TallyTells", spec := "tallyTells", apart := false, narrowed := true }
def TallyTellsUptoSaid : Prop := tallyTellsUptoRow.holds Try.pinned (OpenSpec.upto tallyTellsSpec)

/-- 'emulsionlaw12.TallyChanged', WHERE WHAT IT READS IS OF BULK AT MOST 1048576: true; the input reads as it did. -/
def tallyChangedUptoRow : OpenClaim := { program := "ythlegbnbefmfkaa", sum := "560850cea5acd170f54442a483e4395ac694e0031d828bbefe3c14c337c5199f", func := "emulsion/emulsionlaw12.TallyChanged", spec := "tallyChanged", apart := false, narrowed := true }
def TallyChangedUptoSaid : Prop := tallyChangedUptoRow.holds Try.pinned (OpenSpec.upto tallyChangedSpec)

/-- 'emulsionlaw12.TallyParts', WHERE WHAT IT READS IS OF BULK AT MOST 1048576: true; the input reads as it did. -/
def tallyPartsUptoRow : OpenClaim := { program := "ythlegbnbefmfkaa", sum := "560850cea5acd170f54442a483e4395ac694e0031d828bbefe3c14c337c5199f", func := "emulsion/emulsionlaw12.TallyParts", spec := "tallyParts", apart := false, narrowed := true }
def TallyPartsUptoSaid : Prop := tallyPartsUptoRow.holds Try.pinned (OpenSpec.upto tallyPartsSpec)

/-- 'emulsionlaw12.TallySeals', WHERE WHAT IT READS IS OF BULK AT MOST 1048576: true; the input reads as it did. -/
def tallySealsUptoRow : OpenClaim := { program := "ythlegbnbefmfkaa", sum := "560850cea5acd170f54442a483e4395ac694e0031d828bbefe3c14c337c5199f", func := "emulsion/emulsionlaw12.TallySeals", spec := "tallySeals", apart := false, narrowed := true }
def TallySealsUptoSaid : Prop := tallySealsUptoRow.holds Try.pinned (OpenSpec.upto tallySealsSpec)

/-- 'emulsionlaw12.TallyHalves', WHERE WHAT IT READS IS OF BULK AT MOST 1048576: true; the input reads as it did. -/
def tallyHalvesUptoRow : OpenClaim := { program := "ythlegbnbefmfkaa", sum := "560850cea5acd170f54442a483e4395ac694e0031d828bbefe3c14c337c5199f", func := "emulsion/emulsionlaw12.TallyHalves", spec := "tallyHalves", apart := false, narrowed := true }
def TallyHalvesUptoSaid : Prop := tallyHalvesUptoRow.holds Try.pinned (OpenSpec.upto tallyHalvesSpec)

end Rows
end Go.Proofs.Ythlegbnbefmfkaa
