/-
  No cell of these rows narrows 'for every input' (looked for: loops, veiled, ifaces, maps, wideKeys, modest, calm, conditions, laid).
  DERIVED. THE GIVEN ROWS OF THIS SEAT. 10 by the template 'for every input the law returns true; each argument reads behind the call as it read before'; 0 by the template 'total and deterministic' (their statements: YtjbimnicnehnaaaTotals.lean).
  GIVEN WITH THE SEED: the statements are not yours to turn. If you find one false, say at which input.
  Laid BY PROGRAM, IN A SANDBOX (cutbox-rows.mjs): the forced cells as the released guide's own fill.sh prints them over the translation 3ce6b7393dc55191… (all of the seat's roots in one cut). By AI agents, Wed Nov 11 2026. No macro, syntax, notation, axiom, sorry.
-/
import Derived.Test.YtjbimnicnehnaaaChecked
import GoSem.Claim
import GoSem.ClaimJoined
import GoSem.ClaimMapViews
import Derived.JoinedTies
import Derived.KernelRfl
namespace Go.Proofs.Ytjbimnicnehnaaa
/- THE CELL 'sum', in the pinned program and in every row, IS THE sha256 OF THE DUMP (.gsa) THAT YtjbimnicnehnaaaProg.lean LOADS. Nothing in Lean hashes anything: it is a label: what it is worth is what the hold of that sum in a sandbox is worth. -/
noncomputable def Try.pinned : Pinned := { name := "ytjbimnicnehnaaa", sum := "3ce6b7393dc5519156288c14e802c5afdddc38bbcfbbabba6a78f9f645ff8216", checked := Try.checked }
namespace Rows
def none {H : Type} : Left H := { results := [], args := [] }

/-- 'emulsionlaw1.SpanBlocks': WHATEVER THE INPUT: true; the input reads as it did. -/
def spanBlocksSpec : ChangeSpec := { name := "spanBlocks", fn := fun _ => fun
  | [d1, d2] => { results := [.lit (.bool true)], args := [d1, d2] }
  | _ => none }
def spanBlocksRow : OpenClaim := { program := "ytjbimnicnehnaaa", sum := "3ce6b7393dc5519156288c14e802c5afdddc38bbcfbbabba6a78f9f645ff8216", func := "emulsion/emulsionlaw1.SpanBlocks", spec := "spanBlocks", apart := false }
def SpanBlocksSaid : Prop := spanBlocksRow.holds Try.pinned (OpenSpec.ofChange spanBlocksSpec)

/-- ITS FALSE NEIGHBOUR: 'it returns false'. Refute it at one input. -/
def spanBlocksWrong : ChangeSpec := { name := "spanBlocks", fn := fun _ => fun
  | [d1, d2] => { results := [.lit (.bool false)], args := [d1, d2] }
  | _ => none }
def SpanBlocksWrongFalsely : Prop := spanBlocksRow.holds Try.pinned (OpenSpec.ofChange spanBlocksWrong)

/-- 'emulsionlaw1.SpanSplits': WHATEVER THE INPUT: true; the input reads as it did. -/
def spanSplitsSpec : ChangeSpec := { name := "spanSplits", fn := fun _ => fun
  | [d1, d2] => { results := [.lit (.bool true)], args := [d1, d2] }
  | _ => none }
def spanSplitsRow : OpenClaim := { program := "ytjbimnicnehnaaa", sum := "3ce6b7393dc5519156288c14e802c5afdddc38bbcfbbabba6a78f9f645ff8216", func := "emulsion/emulsionlaw1.SpanSplits", spec := "spanSplits", apart := false }
def SpanSplitsSaid : Prop := spanSplitsRow.holds Try.pinned (OpenSpec.ofChange spanSplitsSpec)

/-- ITS FALSE NEIGHBOUR: 'it returns false'. Refute it at one input. -/
def spanSplitsWrong : ChangeSpec := { name := "spanSplits", fn := fun _ => fun
  | [d1, d2] => { results := [.lit (.bool false)], args := [d1, d2] }
  | _ => none }
def SpanSplitsWrongFalsely : Prop := spanSplitsRow.holds Try.pinned (OpenSpec.ofChange spanSplitsWrong)

/-- 'emulsionlaw1.SpanOrder': WHATEVER THE INPUT: true; the input reads as it did. -/
def spanOrderSpec : ChangeSpec := { name := "spanOrder", fn := fun _ => fun
  | [d1, d2] => { results := [.lit (.bool true)], args := [d1, d2] }
  | _ => none }
def spanOrderRow : OpenClaim := { program := "ytjbimnicnehnaaa", sum := "3ce6b7393dc5519156288c14e802c5afdddc38bbcfbbabba6a78f9f645ff8216", func := "emulsion/emulsionlaw1.SpanOrder", spec := "spanOrder", apart := false }
def SpanOrderSaid : Prop := spanOrderRow.holds Try.pinned (OpenSpec.ofChange spanOrderSpec)

/-- ITS FALSE NEIGHBOUR: 'it returns false'. Refute it at one input. -/
def spanOrderWrong : ChangeSpec := { name := "spanOrder", fn := fun _ => fun
  | [d1, d2] => { results := [.lit (.bool false)], args := [d1, d2] }
  | _ => none }
def SpanOrderWrongFalsely : Prop := spanOrderRow.holds Try.pinned (OpenSpec.ofChange spanOrderWrong)

/-- 'emulsionlaw1.SpanTells': WHATEVER THE INPUT: true; the input reads as it did. -/
def spanTellsSpec : ChangeSpec := { name := "spanTells", fn := fun _ => fun
  | [d1, d2, d3, d4] => { results := [.lit (.bool true)], args := [d1, d2, d3, d4] }
  | _ => none }
def spanTellsRow : OpenClaim := { program := "ytjbimnicnehnaaa", sum := "3ce6b7393dc5519156288c14e802c5afdddc38bbcfbbabba6a78f9f645ff8216", func := "emulsion/emulsionlaw1.SpanTells", spec := "spanTells", apart := false }
def SpanTellsSaid : Prop := spanTellsRow.holds Try.pinned (OpenSpec.ofChange spanTellsSpec)

/-- ITS FALSE NEIGHBOUR: 'it returns false'. Refute it at one input. -/
def spanTellsWrong : ChangeSpec := { name := "spanTells", fn := fun _ => fun
  | [d1, d2, d3, d4] => { results := [.lit (.bool false)], args := [d1, d2, d3, d4] }
  | _ => none }
def SpanTellsWrongFalsely : Prop := spanTellsRow.holds Try.pinned (OpenSpec.ofChange spanTellsWrong)

/-- 'emulsionlaw1.SpanBytes': WHATEVER THE INPUT: true; the input reads as it did. -/
def spanBytesSpec : ChangeSpec := { name := "spanBytes", fn := fun _ => fun
  | [d1, d2, d3] => { results := [.lit (.bool true)], args := [d1, d2, d3] }
  | _ => none }
def spanBytesRow : OpenClaim := { program := "ytjbimnicnehnaaa", sum := "3ce6b7393dc5519156288c14e802c5afdddc38bbcfbbabba6a78f9f645ff8216", func := "emulsion/emulsionlaw1.SpanBytes", spec := "spanBytes", apart := false }
def SpanBytesSaid : Prop := spanBytesRow.holds Try.pinned (OpenSpec.ofChange spanBytesSpec)

/-- ITS FALSE NEIGHBOUR: 'it returns false'. Refute it at one input. -/
def spanBytesWrong : ChangeSpec := { name := "spanBytes", fn := fun _ => fun
  | [d1, d2, d3] => { results := [.lit (.bool false)], args := [d1, d2, d3] }
  | _ => none }
def SpanBytesWrongFalsely : Prop := spanBytesRow.holds Try.pinned (OpenSpec.ofChange spanBytesWrong)

/-- 'emulsionlaw2.RunsNext': WHATEVER THE INPUT: true; the input reads as it did. -/
def runsNextSpec : ChangeSpec := { name := "runsNext", fn := fun _ => fun
  | [d] => { results := [.lit (.bool true)], args := [d] }
  | _ => none }
def runsNextRow : OpenClaim := { program := "ytjbimnicnehnaaa", sum := "3ce6b7393dc5519156288c14e802c5afdddc38bbcfbbabba6a78f9f645ff8216", func := "emulsion/emulsionlaw2.RunsNext", spec := "runsNext", apart := false }
def RunsNextSaid : Prop := runsNextRow.holds Try.pinned (OpenSpec.ofChange runsNextSpec)

/-- ITS FALSE NEIGHBOUR: 'it returns false'. Refute it at one input. -/
def runsNextWrong : ChangeSpec := { name := "runsNext", fn := fun _ => fun
  | [d] => { results := [.lit (.bool false)], args := [d] }
  | _ => none }
def RunsNextWrongFalsely : Prop := runsNextRow.holds Try.pinned (OpenSpec.ofChange runsNextWrong)

/-- 'emulsionlaw2.RunsOrder': WHATEVER THE INPUT: true; the input reads as it did. -/
def runsOrderSpec : ChangeSpec := { name := "runsOrder", fn := fun _ => fun
  | [d1, d2] => { results := [.lit (.bool true)], args := [d1, d2] }
  | _ => none }
def runsOrderRow : OpenClaim := { program := "ytjbimnicnehnaaa", sum := "3ce6b7393dc5519156288c14e802c5afdddc38bbcfbbabba6a78f9f645ff8216", func := "emulsion/emulsionlaw2.RunsOrder", spec := "runsOrder", apart := false }
def RunsOrderSaid : Prop := runsOrderRow.holds Try.pinned (OpenSpec.ofChange runsOrderSpec)

/-- ITS FALSE NEIGHBOUR: 'it returns false'. Refute it at one input. -/
def runsOrderWrong : ChangeSpec := { name := "runsOrder", fn := fun _ => fun
  | [d1, d2] => { results := [.lit (.bool false)], args := [d1, d2] }
  | _ => none }
def RunsOrderWrongFalsely : Prop := runsOrderRow.holds Try.pinned (OpenSpec.ofChange runsOrderWrong)

/-- 'emulsionlaw2.RunsMeet': WHATEVER THE INPUT: true; the input reads as it did. -/
def runsMeetSpec : ChangeSpec := { name := "runsMeet", fn := fun _ => fun
  | [d1, d2] => { results := [.lit (.bool true)], args := [d1, d2] }
  | _ => none }
def runsMeetRow : OpenClaim := { program := "ytjbimnicnehnaaa", sum := "3ce6b7393dc5519156288c14e802c5afdddc38bbcfbbabba6a78f9f645ff8216", func := "emulsion/emulsionlaw2.RunsMeet", spec := "runsMeet", apart := false }
def RunsMeetSaid : Prop := runsMeetRow.holds Try.pinned (OpenSpec.ofChange runsMeetSpec)

/-- ITS FALSE NEIGHBOUR: 'it returns false'. Refute it at one input. -/
def runsMeetWrong : ChangeSpec := { name := "runsMeet", fn := fun _ => fun
  | [d1, d2] => { results := [.lit (.bool false)], args := [d1, d2] }
  | _ => none }
def RunsMeetWrongFalsely : Prop := runsMeetRow.holds Try.pinned (OpenSpec.ofChange runsMeetWrong)

/-- 'emulsionlaw2.RunsLess': WHATEVER THE INPUT: true; the input reads as it did. -/
def runsLessSpec : ChangeSpec := { name := "runsLess", fn := fun _ => fun
  | [d1, d2] => { results := [.lit (.bool true)], args := [d1, d2] }
  | _ => none }
def runsLessRow : OpenClaim := { program := "ytjbimnicnehnaaa", sum := "3ce6b7393dc5519156288c14e802c5afdddc38bbcfbbabba6a78f9f645ff8216", func := "emulsion/emulsionlaw2.RunsLess", spec := "runsLess", apart := false }
def RunsLessSaid : Prop := runsLessRow.holds Try.pinned (OpenSpec.ofChange runsLessSpec)

/-- ITS FALSE NEIGHBOUR: 'it returns false'. Refute it at one input. -/
def runsLessWrong : ChangeSpec := { name := "runsLess", fn := fun _ => fun
  | [d1, d2] => { results := [.lit (.bool false)], args := [d1, d2] }
  | _ => none }
def RunsLessWrongFalsely : Prop := runsLessRow.holds Try.pinned (OpenSpec.ofChange runsLessWrong)

/-- 'emulsionlaw2.RunsPlay': WHATEVER THE INPUT: true; the input reads as it did. -/
def runsPlaySpec : ChangeSpec := { name := "runsPlay", fn := fun _ => fun
  | [d1, d2, d3] => { results := [.lit (.bool true)], args := [d1, d2, d3] }
  | _ => none }
def runsPlayRow : OpenClaim := { program := "ytjbimnicnehnaaa", sum := "3ce6b7393dc5519156288c14e802c5afdddc38bbcfbbabba6a78f9f645ff8216", func := "emulsion/emulsionlaw2.RunsPlay", spec := "runsPlay", apart := false }
def RunsPlaySaid : Prop := runsPlayRow.holds Try.pinned (OpenSpec.ofChange runsPlaySpec)

/-- ITS FALSE NEIGHBOUR: 'it returns false'. Refute it at one input. -/
def runsPlayWrong : ChangeSpec := { name := "runsPlay", fn := fun _ => fun
  | [d1, d2, d3] => { results := [.lit (.bool false)], args := [d1, d2, d3] }
  | _ => none }
def RunsPlayWrongFalsely : Prop := runsPlayRow.holds Try.pinned (OpenSpec.ofChange runsPlayWrong)

/- THE SECOND FORM. 'bulk': how many values and letters a reading holds, each counted each time it is reached (what is shared counts as often as it is met; a slice's spare places count too). A statement '..UptoSaid' is the law's where the arguments, and the package variables that the reading takes, are together of bulk at most 1048576: NARROWER than '..Said'. Prove '..Said' where nothing that the law and all that it calls make is longer than what came in: it says more and counts as full. Else prove '..UptoSaid'. A law counts once. -/
mutual
def uptoBulk {H : Type} : DataW H → Nat
  | .lit (.string bytes) => bytes.length + 1
  | .lit _ => 1
  | .nil => 1
  | .ptr d => uptoBulk d + 1
  | .slice elems spare => uptoBulkAll elems + uptoBulkAll spare + 1
  | .agg parts => uptoBulkAll parts + 1
  | .iface _ d => uptoBulk d + 1
  | .map entries => uptoBulkEntries entries + 1
  | .held _ => 1
def uptoBulkAll {H : Type} : List (DataW H) → Nat
  | [] => 0
  | d :: r => uptoBulk d + uptoBulkAll r
def uptoBulkEntries {H : Type} : List (Lit × DataW H) → Nat
  | [] => 0
  | x :: r => uptoBulkEntry x + uptoBulkEntries r
def uptoBulkEntry {H : Type} : Lit × DataW H → Nat
  | (.string bytes, d) => bytes.length + uptoBulk d + 1
  | (_, d) => uptoBulk d + 1
 end
def uptoSmall : (H : Type) → List (DataW H) → Bool := fun _ ds => decide (uptoBulkAll ds ≤ 1048576)
def OpenSpec.upto (s : _root_.Go.ChangeSpec) : _root_.Go.OpenSpec := { _root_.Go.OpenSpec.ofChange s with cond := some uptoSmall }

/-- 'emulsionlaw1.SpanBlocks', WHERE WHAT IT READS IS OF BULK AT MOST 1048576: true; the input reads as it did. -/
def spanBlocksUptoRow : OpenClaim := { program := "ytjbimnicnehnaaa", sum := "3ce6b7393dc5519156288c14e802c5afdddc38bbcfbbabba6a78f9f645ff8216", func := "emulsion/emulsionlaw1.SpanBlocks", spec := "spanBlocks", apart := false, narrowed := true }
def SpanBlocksUptoSaid : Prop := spanBlocksUptoRow.holds Try.pinned (OpenSpec.upto spanBlocksSpec)

/-- 'emulsionlaw1.SpanSplits', WHERE WHAT IT READS IS OF BULK AT MOST 1048576: true; the input reads as it did. -/
def spanSplitsUptoRow : OpenClaim := { program := "ytjbimnicnehnaaa", sum := "3ce6b7393dc5519156288c14e802c5afdddc38bbcfbbabba6a78f9f645ff8216", func := "emulsion/emulsionlaw1.SpanSplits", spec := "spanSplits", apart := false, narrowed := true }
def SpanSplitsUptoSaid : Prop := spanSplitsUptoRow.holds Try.pinned (OpenSpec.upto spanSplitsSpec)

/-- 'emulsionlaw1.SpanOrder', WHERE WHAT IT READS IS OF BULK AT MOST 1048576: true; the input reads as it did. -/
def spanOrderUptoRow : OpenClaim := { program := "ytjbimnicnehnaaa", sum := "3ce6b7393dc5519156288c14e802c5afdddc38bbcfbbabba6a78f9f645ff8216", func := "emulsion/emulsionlaw1.SpanOrder", spec := "spanOrder", apart := false, narrowed := true }
def SpanOrderUptoSaid : Prop := spanOrderUptoRow.holds Try.pinned (OpenSpec.upto spanOrderSpec)

/-- 'emulsionlaw1.SpanTells', WHERE WHAT IT READS IS OF BULK AT MOST 1048576: true; the input reads as it did. -/
def spanTellsUptoRow : OpenClaim := { program := "ytjbimnicnehnaaa", sum := "3ce6b7393dc5519156288c14e802c5afdddc38bbcfbbabba6a78f9f645ff8216", func := "emulsion/emulsionlaw1.SpanTells", spec := "spanTells", apart := false, narrowed := true }
def SpanTellsUptoSaid : Prop := spanTellsUptoRow.holds Try.pinned (OpenSpec.upto spanTellsSpec)

/-- 'emulsionlaw1.SpanBytes', WHERE WHAT IT READS IS OF BULK AT MOST 1048576: true; the input reads as it did. -/
def spanBytesUptoRow : OpenClaim := { program := "ytjbimnicnehnaaa", sum := "3ce6b7393dc5519156288c14e802c5afdddc38bbcfbbabba6a78f9f645ff8216", func := "emulsion/emulsionlaw1.SpanBytes", spec := "spanBytes", apart := false, narrowed := true }
def SpanBytesUptoSaid : Prop := spanBytesUptoRow.holds Try.pinned (OpenSpec.upto spanBytesSpec)

/-- 'emulsionlaw2.RunsNext', WHERE WHAT IT READS IS OF BULK AT MOST 1048576: true; the input reads as it did. -/
def runsNextUptoRow : OpenClaim := { program := "ytjbimnicnehnaaa", sum := "3ce6b7393dc5519156288c14e802c5afdddc38bbcfbbabba6a78f9f645ff8216", func := "emulsion/emulsionlaw2.RunsNext", spec := "runsNext", apart := false, narrowed := true }
def RunsNextUptoSaid : Prop := runsNextUptoRow.holds Try.pinned (OpenSpec.upto runsNextSpec)

/-- 'emulsionlaw2.RunsOrder', WHERE WHAT IT READS IS OF BULK AT MOST 1048576: true; the input reads as it did. -/
def runsOrderUptoRow : OpenClaim := { program := "ytjbimnicnehnaaa", sum := "3ce6b7393dc5519156288c14e802c5afdddc38bbcfbbabba6a78f9f645ff8216", func := "emulsion/emulsionlaw2.RunsOrder", spec := "runsOrder", apart := false, narrowed := true }
def RunsOrderUptoSaid : Prop := runsOrderUptoRow.holds Try.pinned (OpenSpec.upto runsOrderSpec)

/-- 'emulsionlaw2.RunsMeet', WHERE WHAT IT READS IS OF BULK AT MOST 1048576: true; the input reads as it did. -/
def runsMeetUptoRow : OpenClaim := { program := "ytjbimnicnehnaaa", sum := "3ce6b7393dc5519156288c14e802c5afdddc38bbcfbbabba6a78f9f645ff8216", func := "emulsion/emulsionlaw2.RunsMeet", spec := "runsMeet", apart := false, narrowed := true }
def RunsMeetUptoSaid : Prop := runsMeetUptoRow.holds Try.pinned (OpenSpec.upto runsMeetSpec)

/-- 'emulsionlaw2.RunsLess', WHERE WHAT IT READS IS OF BULK AT MOST 1048576: true; the input reads as it did. -/
def runsLessUptoRow : OpenClaim := { program := "ytjbimnicnehnaaa", sum := "3ce6b7393dc5519156288c14e802c5afdddc38bbcfbbabba6a78f9f645ff8216", func := "emulsion/emulsionlaw2.RunsLess", spec := "runsLess", apart := false, narrowed := true }
def RunsLessUptoSaid : Prop := runsLessUptoRow.holds Try.pinned (OpenSpec.upto runsLessSpec)

/-- 'emulsionlaw2.RunsPlay', WHERE WHAT IT READS IS OF BULK AT MOST 1048576: true; the input reads as it did. -/
def runsPlayUptoRow : OpenClaim := { program := "ytjbimnicnehnaaa", sum := "3ce6b7393dc5519156288c14e802c5afdddc38bbcfbbabba6a78f9f645ff8216", func := "emulsion/emulsionlaw2.RunsPlay", spec := "runsPlay", apart := false, narrowed := true }
def RunsPlayUptoSaid : Prop := runsPlayUptoRow.holds Try.pinned (OpenSpec.upto runsPlaySpec)

end Rows
end Go.Proofs.Ytjbimnicnehnaaa
