/-
  No cell of these rows narrows 'for every input' (looked for: loops, veiled, ifaces, maps, wideKeys, modest, calm, conditions, laid).
  DERIVED. THE GIVEN ROWS OF THIS SEAT. 10 by the template 'for every input the law returns true; each argument reads behind the call as it read before'; 0 by the template 'total and deterministic' (their statements: YtffemlfdhkndiaaTotals.lean).
  GIVEN WITH THE SEED: the statements are not yours to turn. If you find one false, say at which input.
  Laid BY PROGRAM, IN A SANDBOX (cutbox-rows.mjs): the forced cells as the released guide's own fill.sh prints them over the translation eab87a83c7fb533a… (all of the seat's roots in one cut). By AI agents, Wed Nov 11 2026. No macro, syntax, notation, axiom, sorry.
-/
import Derived.Test.YtffemlfdhkndiaaChecked
import GoSem.Claim
import GoSem.ClaimJoined
import GoSem.ClaimMapViews
import Derived.JoinedTies
import Derived.KernelRfl
namespace Go.Proofs.Ytffemlfdhkndiaa
/- THE CELL 'sum', in the pinned program and in every row, IS THE sha256 OF THE DUMP (.gsa) THAT YtffemlfdhkndiaaProg.lean LOADS. Nothing in Lean hashes anything: it is a label: what it is worth is what the hold of that sum in a sandbox is worth. -/
noncomputable def Try.pinned : Pinned := { name := "ytffemlfdhkndiaa", sum := "eab87a83c7fb533ac6fcc7cc61dd581fcce47fd18dd1590e091d65233ea9ee0f", checked := Try.checked }
namespace Rows
def none {H : Type} : Left H := { results := [], args := [] }

/-- 'emulsionlaw3.DirtOrs': WHATEVER THE INPUT: true; the input reads as it did. -/
def dirtOrsSpec : ChangeSpec := { name := "dirtOrs", fn := fun _ => fun
  | [d1, d2, d3] => { results := [.lit (.bool true)], args := [d1, d2, d3] }
  | _ => none }
def dirtOrsRow : OpenClaim := { program := "ytffemlfdhkndiaa", sum := "eab87a83c7fb533ac6fcc7cc61dd581fcce47fd18dd1590e091d65233ea9ee0f", func := "emulsion/emulsionlaw3.DirtOrs", spec := "dirtOrs", apart := false }
def DirtOrsSaid : Prop := dirtOrsRow.holds Try.pinned (OpenSpec.ofChange dirtOrsSpec)

/-- ITS FALSE NEIGHBOUR: 'it returns false'. Refute it at one input. -/
def dirtOrsWrong : ChangeSpec := { name := "dirtOrs", fn := fun _ => fun
  | [d1, d2, d3] => { results := [.lit (.bool false)], args := [d1, d2, d3] }
  | _ => none }
def DirtOrsWrongFalsely : Prop := dirtOrsRow.holds Try.pinned (OpenSpec.ofChange dirtOrsWrong)

/-- 'emulsionlaw3.DirtMarks': WHATEVER THE INPUT: true; the input reads as it did. -/
def dirtMarksSpec : ChangeSpec := { name := "dirtMarks", fn := fun _ => fun
  | [d1, d2, d3] => { results := [.lit (.bool true)], args := [d1, d2, d3] }
  | _ => none }
def dirtMarksRow : OpenClaim := { program := "ytffemlfdhkndiaa", sum := "eab87a83c7fb533ac6fcc7cc61dd581fcce47fd18dd1590e091d65233ea9ee0f", func := "emulsion/emulsionlaw3.DirtMarks", spec := "dirtMarks", apart := false }
def DirtMarksSaid : Prop := dirtMarksRow.holds Try.pinned (OpenSpec.ofChange dirtMarksSpec)

/-- ITS FALSE NEIGHBOUR: 'it returns false'. Refute it at one input. -/
def dirtMarksWrong : ChangeSpec := { name := "dirtMarks", fn := fun _ => fun
  | [d1, d2, d3] => { results := [.lit (.bool false)], args := [d1, d2, d3] }
  | _ => none }
def DirtMarksWrongFalsely : Prop := dirtMarksRow.holds Try.pinned (OpenSpec.ofChange dirtMarksWrong)

/-- 'emulsionlaw3.DirtReads': WHATEVER THE INPUT: true; the input reads as it did. -/
def dirtReadsSpec : ChangeSpec := { name := "dirtReads", fn := fun _ => fun
  | [d1, d2] => { results := [.lit (.bool true)], args := [d1, d2] }
  | _ => none }
def dirtReadsRow : OpenClaim := { program := "ytffemlfdhkndiaa", sum := "eab87a83c7fb533ac6fcc7cc61dd581fcce47fd18dd1590e091d65233ea9ee0f", func := "emulsion/emulsionlaw3.DirtReads", spec := "dirtReads", apart := false }
def DirtReadsSaid : Prop := dirtReadsRow.holds Try.pinned (OpenSpec.ofChange dirtReadsSpec)

/-- ITS FALSE NEIGHBOUR: 'it returns false'. Refute it at one input. -/
def dirtReadsWrong : ChangeSpec := { name := "dirtReads", fn := fun _ => fun
  | [d1, d2] => { results := [.lit (.bool false)], args := [d1, d2] }
  | _ => none }
def DirtReadsWrongFalsely : Prop := dirtReadsRow.holds Try.pinned (OpenSpec.ofChange dirtReadsWrong)

/-- 'emulsionlaw3.DirtPlays': WHATEVER THE INPUT: true; the input reads as it did. -/
def dirtPlaysSpec : ChangeSpec := { name := "dirtPlays", fn := fun _ => fun
  | [d1, d2, d3] => { results := [.lit (.bool true)], args := [d1, d2, d3] }
  | _ => none }
def dirtPlaysRow : OpenClaim := { program := "ytffemlfdhkndiaa", sum := "eab87a83c7fb533ac6fcc7cc61dd581fcce47fd18dd1590e091d65233ea9ee0f", func := "emulsion/emulsionlaw3.DirtPlays", spec := "dirtPlays", apart := false }
def DirtPlaysSaid : Prop := dirtPlaysRow.holds Try.pinned (OpenSpec.ofChange dirtPlaysSpec)

/-- ITS FALSE NEIGHBOUR: 'it returns false'. Refute it at one input. -/
def dirtPlaysWrong : ChangeSpec := { name := "dirtPlays", fn := fun _ => fun
  | [d1, d2, d3] => { results := [.lit (.bool false)], args := [d1, d2, d3] }
  | _ => none }
def DirtPlaysWrongFalsely : Prop := dirtPlaysRow.holds Try.pinned (OpenSpec.ofChange dirtPlaysWrong)

/-- 'emulsionlaw3.DirtBack': WHATEVER THE INPUT: true; the input reads as it did. -/
def dirtBackSpec : ChangeSpec := { name := "dirtBack", fn := fun _ => fun
  | [d1, d2, d3] => { results := [.lit (.bool true)], args := [d1, d2, d3] }
  | _ => none }
def dirtBackRow : OpenClaim := { program := "ytffemlfdhkndiaa", sum := "eab87a83c7fb533ac6fcc7cc61dd581fcce47fd18dd1590e091d65233ea9ee0f", func := "emulsion/emulsionlaw3.DirtBack", spec := "dirtBack", apart := false }
def DirtBackSaid : Prop := dirtBackRow.holds Try.pinned (OpenSpec.ofChange dirtBackSpec)

/-- ITS FALSE NEIGHBOUR: 'it returns false'. Refute it at one input. -/
def dirtBackWrong : ChangeSpec := { name := "dirtBack", fn := fun _ => fun
  | [d1, d2, d3] => { results := [.lit (.bool false)], args := [d1, d2, d3] }
  | _ => none }
def DirtBackWrongFalsely : Prop := dirtBackRow.holds Try.pinned (OpenSpec.ofChange dirtBackWrong)

/-- 'emulsionlaw6.TrackFrozen': WHATEVER THE INPUT: true; the input reads as it did. -/
def trackFrozenSpec : ChangeSpec := { name := "trackFrozen", fn := fun _ => fun
  | [d1, d2, d3] => { results := [.lit (.bool true)], args := [d1, d2, d3] }
  | _ => none }
def trackFrozenRow : OpenClaim := { program := "ytffemlfdhkndiaa", sum := "eab87a83c7fb533ac6fcc7cc61dd581fcce47fd18dd1590e091d65233ea9ee0f", func := "emulsion/emulsionlaw6.TrackFrozen", spec := "trackFrozen", apart := false }
def TrackFrozenSaid : Prop := trackFrozenRow.holds Try.pinned (OpenSpec.ofChange trackFrozenSpec)

/-- ITS FALSE NEIGHBOUR: 'it returns false'. Refute it at one input. -/
def trackFrozenWrong : ChangeSpec := { name := "trackFrozen", fn := fun _ => fun
  | [d1, d2, d3] => { results := [.lit (.bool false)], args := [d1, d2, d3] }
  | _ => none }
def TrackFrozenWrongFalsely : Prop := trackFrozenRow.holds Try.pinned (OpenSpec.ofChange trackFrozenWrong)

/-- 'emulsionlaw6.TrackRounds': WHATEVER THE INPUT: true; the input reads as it did. -/
def trackRoundsSpec : ChangeSpec := { name := "trackRounds", fn := fun _ => fun
  | [d1, d2] => { results := [.lit (.bool true)], args := [d1, d2] }
  | _ => none }
def trackRoundsRow : OpenClaim := { program := "ytffemlfdhkndiaa", sum := "eab87a83c7fb533ac6fcc7cc61dd581fcce47fd18dd1590e091d65233ea9ee0f", func := "emulsion/emulsionlaw6.TrackRounds", spec := "trackRounds", apart := false }
def TrackRoundsSaid : Prop := trackRoundsRow.holds Try.pinned (OpenSpec.ofChange trackRoundsSpec)

/-- ITS FALSE NEIGHBOUR: 'it returns false'. Refute it at one input. -/
def trackRoundsWrong : ChangeSpec := { name := "trackRounds", fn := fun _ => fun
  | [d1, d2] => { results := [.lit (.bool false)], args := [d1, d2] }
  | _ => none }
def TrackRoundsWrongFalsely : Prop := trackRoundsRow.holds Try.pinned (OpenSpec.ofChange trackRoundsWrong)

/-- 'emulsionlaw6.TrackKeeps': WHATEVER THE INPUT: true; the input reads as it did. -/
def trackKeepsSpec : ChangeSpec := { name := "trackKeeps", fn := fun _ => fun
  | [d1, d2, d3, d4, d5] => { results := [.lit (.bool true)], args := [d1, d2, d3, d4, d5] }
  | _ => none }
def trackKeepsRow : OpenClaim := { program := "ytffemlfdhkndiaa", sum := "eab87a83c7fb533ac6fcc7cc61dd581fcce47fd18dd1590e091d65233ea9ee0f", func := "emulsion/emulsionlaw6.TrackKeeps", spec := "trackKeeps", apart := false }
def TrackKeepsSaid : Prop := trackKeepsRow.holds Try.pinned (OpenSpec.ofChange trackKeepsSpec)

/-- ITS FALSE NEIGHBOUR: 'it returns false'. Refute it at one input. -/
def trackKeepsWrong : ChangeSpec := { name := "trackKeeps", fn := fun _ => fun
  | [d1, d2, d3, d4, d5] => { results := [.lit (.bool false)], args := [d1, d2, d3, d4, d5] }
  | _ => none }
def TrackKeepsWrongFalsely : Prop := trackKeepsRow.holds Try.pinned (OpenSpec.ofChange trackKeepsWrong)

/-- 'emulsionlaw6.TrackLost': WHATEVER THE INPUT: true; the input reads as it did. -/
def trackLostSpec : ChangeSpec := { name := "trackLost", fn := fun _ => fun
  | [d1, d2] => { results := [.lit (.bool true)], args := [d1, d2] }
  | _ => none }
def trackLostRow : OpenClaim := { program := "ytffemlfdhkndiaa", sum := "eab87a83c7fb533ac6fcc7cc61dd581fcce47fd18dd1590e091d65233ea9ee0f", func := "emulsion/emulsionlaw6.TrackLost", spec := "trackLost", apart := false }
def TrackLostSaid : Prop := trackLostRow.holds Try.pinned (OpenSpec.ofChange trackLostSpec)

/-- ITS FALSE NEIGHBOUR: 'it returns false'. Refute it at one input. -/
def trackLostWrong : ChangeSpec := { name := "trackLost", fn := fun _ => fun
  | [d1, d2] => { results := [.lit (.bool false)], args := [d1, d2] }
  | _ => none }
def TrackLostWrongFalsely : Prop := trackLostRow.holds Try.pinned (OpenSpec.ofChange trackLostWrong)

/-- 'emulsionlaw6.TrackPlays': WHATEVER THE INPUT: true; the input reads as it did. -/
def trackPlaysSpec : ChangeSpec := { name := "trackPlays", fn := fun _ => fun
  | [d1, d2] => { results := [.lit (.bool true)], args := [d1, d2] }
  | _ => none }
def trackPlaysRow : OpenClaim := { program := "ytffemlfdhkndiaa", sum := "eab87a83c7fb533ac6fcc7cc61dd581fcce47fd18dd1590e091d65233ea9ee0f", func := "emulsion/emulsionlaw6.TrackPlays", spec := "trackPlays", apart := false }
def TrackPlaysSaid : Prop := trackPlaysRow.holds Try.pinned (OpenSpec.ofChange trackPlaysSpec)

/-- ITS FALSE NEIGHBOUR: 'it returns false'. Refute it at one input. -/
def trackPlaysWrong : ChangeSpec := { name := "trackPlays", fn := fun _ => fun
  | [d1, d2] => { results := [.lit (.bool false)], args := [d1, d2] }
  | _ => none }
def TrackPlaysWrongFalsely : Prop := trackPlaysRow.holds Try.pinned (OpenSpec.ofChange trackPlaysWrong)

/- THE SECOND FORM. 'bulk': how many values and letters a reading holds, each counted each time it is reached (what is shared counts as often as it is met; a slice's spare places count too). A statement '..UptoSaid' is the law's where the arguments, and the package variables that the reading takes, are together of bulk at most 1048576: NARROWER than '..Said'. Prove '..Said' where nothing that the law and all that it calls make is longer than what came in: it says more and counts as full. Else prove '..UptoSaid'. A law counts once. -/
mutual
def uptoBulk {H : Type} : DataW H → Nat
  | .lit (.string bytes) => bytes.length + 1
  | .lit _ => 1
  | .nil => 1
  | .ptr d => uptoBulk d + 1
  | .slice elems spare => uptoBulkAll elems + uptoBulkAll spare + 1
  | .agg parts => uptoBulkAll parts + 1
  | .iface _ d => uptoBulk d + 1
  | .map entries => uptoBulkEntries entries + 1
  | .held _ => 1
def uptoBulkAll {H : Type} : List (DataW H) → Nat
  | [] => 0
  | d :: r => uptoBulk d + uptoBulkAll r
def uptoBulkEntries {H : Type} : List (Lit × DataW H) → Nat
  | [] => 0
  | x :: r => uptoBulkEntry x + uptoBulkEntries r
def uptoBulkEntry {H : Type} : Lit × DataW H → Nat
  | (.string bytes, d) => bytes.length + uptoBulk d + 1
  | (_, d) => uptoBulk d + 1
 end
def uptoSmall : (H : Type) → List (DataW H) → Bool := fun _ ds => decide (uptoBulkAll ds ≤ 1048576)
def OpenSpec.upto (s : _root_.Go.ChangeSpec) : _root_.Go.OpenSpec := { _root_.Go.OpenSpec.ofChange s with cond := some uptoSmall }

/-- 'emulsionlaw3.DirtOrs', WHERE WHAT IT READS IS OF BULK AT MOST 1048576: true; the input reads as it did. -/
def dirtOrsUptoRow : OpenClaim := { program := "ytffemlfdhkndiaa", sum := "eab87a83c7fb533ac6fcc7cc61dd581fcce47fd18dd1590e091d65233ea9ee0f", func := "emulsion/emulsionlaw3.DirtOrs", spec := "dirtOrs", apart := false, narrowed := true }
def DirtOrsUptoSaid : Prop := dirtOrsUptoRow.holds Try.pinned (OpenSpec.upto dirtOrsSpec)

/-- 'emulsionlaw3.DirtMarks', WHERE WHAT IT READS IS OF BULK AT MOST 1048576: true; the input reads as it did. -/
def dirtMarksUptoRow : OpenClaim := { program := "ytffemlfdhkndiaa", sum := "eab87a83c7fb533ac6fcc7cc61dd581fcce47fd18dd1590e091d65233ea9ee0f", func := "emulsion/emulsionlaw3.DirtMarks", spec := "dirtMarks", apart := false, narrowed := true }
def DirtMarksUptoSaid : Prop := dirtMarksUptoRow.holds Try.pinned (OpenSpec.upto dirtMarksSpec)

/-- 'emulsionlaw3.DirtReads', WHERE WHAT IT READS IS OF BULK AT MOST 1048576: true; the input reads as it did. -/
def dirtReadsUptoRow : OpenClaim := { program := "ytffemlfdhkndiaa", sum := "eab87a83c7fb533ac6fcc7cc61dd581fcce47fd18dd1590e091d65233ea9ee0f", func := "emulsion/emulsionlaw3.DirtReads", spec := "dirtReads", apart := false, narrowed := true }
def DirtReadsUptoSaid : Prop := dirtReadsUptoRow.holds Try.pinned (OpenSpec.upto dirtReadsSpec)

/-- 'emulsionlaw3.DirtPlays', WHERE WHAT IT READS IS OF BULK AT MOST 1048576: true; the input reads as it did. -/
def dirtPlaysUptoRow : OpenClaim := { program := "ytffemlfdhkndiaa", sum := "eab87a83c7fb533ac6fcc7cc61dd581fcce47fd18dd1590e091d65233ea9ee0f", func := "emulsion/emulsionlaw3.DirtPlays", spec := "dirtPlays", apart := false, narrowed := true }
def DirtPlaysUptoSaid : Prop := dirtPlaysUptoRow.holds Try.pinned (OpenSpec.upto dirtPlaysSpec)

/-- 'emulsionlaw3.DirtBack', WHERE WHAT IT READS IS OF BULK AT MOST 1048576: true; the input reads as it did. -/
def dirtBackUptoRow : OpenClaim := { program := "ytffemlfdhkndiaa", sum := "eab87a83c7fb533ac6fcc7cc61dd581fcce47fd18dd1590e091d65233ea9ee0f", func := "emulsion/emulsionlaw3.DirtBack", spec := "dirtBack", apart := false, narrowed := true }
def DirtBackUptoSaid : Prop := dirtBackUptoRow.holds Try.pinned (OpenSpec.upto dirtBackSpec)

/-- 'emulsionlaw6.TrackFrozen', WHERE WHAT IT READS IS OF BULK AT MOST 1048576: true; the input reads as it did. -/
def trackFrozenUptoRow : OpenClaim := { program := "ytffemlfdhkndiaa", sum := "eab87a83c7fb533ac6fcc7cc61dd581fcce47fd18dd1590e091d65233ea9ee0f", func := "emulsion/emulsionlaw6.TrackFrozen", spec := "trackFrozen", apart := false, narrowed := true }
def TrackFrozenUptoSaid : Prop := trackFrozenUptoRow.holds Try.pinned (OpenSpec.upto trackFrozenSpec)

/-- 'emulsionlaw6.TrackRounds', WHERE WHAT IT READS IS OF BULK AT MOST 1048576: true; the input reads as it did. -/
def trackRoundsUptoRow : OpenClaim := { program := "ytffemlfdhkndiaa", sum := "eab87a83c7fb533ac6fcc7cc61dd581fcce47fd18dd1590e091d65233ea9ee0f", func := "emulsion/emulsionlaw6.TrackRounds", spec := "trackRounds", apart := false, narrowed := true }
def TrackRoundsUptoSaid : Prop := trackRoundsUptoRow.holds Try.pinned (OpenSpec.upto trackRoundsSpec)

/-- 'emulsionlaw6.TrackKeeps', WHERE WHAT IT READS IS OF BULK AT MOST 1048576: true; the input reads as it did. -/
def trackKeepsUptoRow : OpenClaim := { program := "ytffemlfdhkndiaa", sum := "eab87a83c7fb533ac6fcc7cc61dd581fcce47fd18dd1590e091d65233ea9ee0f", func := "emulsion/emulsionlaw6.TrackKeeps", spec := "trackKeeps", apart := false, narrowed := true }
def TrackKeepsUptoSaid : Prop := trackKeepsUptoRow.holds Try.pinned (OpenSpec.upto trackKeepsSpec)

/-- 'emulsionlaw6.TrackLost', WHERE WHAT IT READS IS OF BULK AT MOST 1048576: true; the input reads as it did. -/
def trackLostUptoRow : OpenClaim := { program := "ytffemlfdhkndiaa", sum := "eab87a83c7fb533ac6fcc7cc61dd581fcce47fd18dd1590e091d65233ea9ee0f", func := "emulsion/emulsionlaw6.TrackLost", spec := "trackLost", apart := false, narrowed := true }
def TrackLostUptoSaid : Prop := trackLostUptoRow.holds Try.pinned (OpenSpec.upto trackLostSpec)

/-- 'emulsionlaw6.TrackPlays', WHERE WHAT IT READS IS OF BULK AT MOST 1048576: true; the input reads as it did. -/
def trackPlaysUptoRow : OpenClaim := { program := "ytffemlfdhkndiaa", sum := "eab87a83c7fb533ac6fcc7cc61dd581fcce47fd18dd1590e091d65233ea9ee0f", func := "emulsion/emulsionlaw6.TrackPlays", spec := "trackPlays", apart := false, narrowed := true }
def TrackPlaysUptoSaid : Prop := trackPlaysUptoRow.holds Try.pinned (OpenSpec.upto trackPlaysSpec)

end Rows
end Go.Proofs.Ytffemlfdhkndiaa
