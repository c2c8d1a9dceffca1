/-
  NARROWER THAN 'FOR EVERY INPUT', by the rows' own cells (each row's printed sentence says how): FilmBlocks: laid · FilmUnlike: laid · FilmParts: laid · FilmCopies: laid.
  DERIVED. THE GIVEN ROWS OF THIS SEAT. 4 by the template 'for every input the law returns true; each argument reads behind the call as it read before'; 0 by the template 'total and deterministic' (their statements: YtknphhcppllpoaaDoorTotals.lean).
  GIVEN WITH THE SEED: the statements are not yours to turn. If you find one false, say at which input.
  Laid BY PROGRAM, IN A SANDBOX (cutbox-rows.mjs): the forced cells as the released guide's own fill.sh prints them over the translation b39ab3acaabee8c1… (all of the seat's roots in one cut). By AI agents, Wed Nov 11 2026. No macro, syntax, notation, axiom, sorry.
-/
import Derived.Test.YtknphhcppllpoaaDoorChecked
import GoSem.PinnedTables
import GoSem.Claim
import GoSem.ClaimJoined
import GoSem.ClaimMapViews
import Derived.JoinedTies
import Derived.KernelRfl
namespace Go.Proofs.YtknphhcppllpoaaDoor
/- THE CELL 'sum', in the pinned program and in every row, IS THE sha256 OF THE DUMP (.gsa) THAT YtknphhcppllpoaaDoorProg.lean LOADS. Nothing in Lean hashes anything: it is a label: what it is worth is what the hold of that sum in a sandbox is worth. -/
noncomputable def Tryd.pinned : Pinned := { name := "ytknphhcppllpoaadoor", sum := "b39ab3acaabee8c11b2d3c0bbd2a614e8f937c4d02af2908228247294a0c2520", checked := Tryd.checked }
namespace Rows
def none {H : Type} : Left H := { results := [], args := [] }

/- WHAT THE LISTED PACKAGE-LEVEL VARIABLES READ AS WHEN THE CALL BEGINS. Each datum BY PROGRAM (the guide's laid-datum.mjs) off the statement by which the dump's own 'gosem.cut.vars' lays the variable. In a bare row this is a premise. The card (YtknphhcppllpoaaDoorCards.lean) ties it to the program's text. -/
def laid_unicode_utf8_acceptRanges {H : Type} : DataW H := .agg [.agg [.lit (.int .u8 128), .lit (.int .u8 191)], .agg [.lit (.int .u8 160), .lit (.int .u8 191)], .agg [.lit (.int .u8 128), .lit (.int .u8 159)], .agg [.lit (.int .u8 144), .lit (.int .u8 191)], .agg [.lit (.int .u8 128), .lit (.int .u8 143)], .agg [.lit (.int .u8 0), .lit (.int .u8 0)], .agg [.lit (.int .u8 0), .lit (.int .u8 0)], .agg [.lit (.int .u8 0), .lit (.int .u8 0)], .agg [.lit (.int .u8 0), .lit (.int .u8 0)], .agg [.lit (.int .u8 0), .lit (.int .u8 0)], .agg [.lit (.int .u8 0), .lit (.int .u8 0)], .agg [.lit (.int .u8 0), .lit (.int .u8 0)], .agg [.lit (.int .u8 0), .lit (.int .u8 0)], .agg [.lit (.int .u8 0), .lit (.int .u8 0)], .agg [.lit (.int .u8 0), .lit (.int .u8 0)], .agg [.lit (.int .u8 0), .lit (.int .u8 0)]]
/-- One of Go's own tables, pinned by name: the form's constant. -/
def laid_unicode_utf8_first : DataW Unit := Go.Pinned.utf8First

/-- 'emulsionlaw4.FilmBlocks': WHATEVER THE INPUT: true; the input reads as it did. -/
def filmBlocksSpec : ChangeSpec := { name := "filmBlocks", fn := fun _ => fun
  | [d1, d2] => { results := [.lit (.bool true)], args := [d1, d2] }
  | _ => none }
def filmBlocksRow : OpenClaim := { program := "ytknphhcppllpoaadoor", sum := "b39ab3acaabee8c11b2d3c0bbd2a614e8f937c4d02af2908228247294a0c2520", func := "emulsion/emulsionlaw4.FilmBlocks", spec := "filmBlocks", inPlace := ["internal/bytealg.IndexByteString", "internal/bytealg.IndexString"], named := ["unicode/utf8.first", "unicode/utf8.acceptRanges", "internal/bytealg.MaxLen"], apart := false, laid := [("unicode/utf8.acceptRanges", laid_unicode_utf8_acceptRanges), ("unicode/utf8.first", laid_unicode_utf8_first)] }
def FilmBlocksSaid : Prop := filmBlocksRow.holds Tryd.pinned (OpenSpec.ofChange filmBlocksSpec)

/-- ITS FALSE NEIGHBOUR: 'it returns false'. Refute it at one input. -/
def filmBlocksWrong : ChangeSpec := { name := "filmBlocks", fn := fun _ => fun
  | [d1, d2] => { results := [.lit (.bool false)], args := [d1, d2] }
  | _ => none }
def FilmBlocksWrongFalsely : Prop := filmBlocksRow.holds Tryd.pinned (OpenSpec.ofChange filmBlocksWrong)

/-- 'emulsionlaw4.FilmUnlike': WHATEVER THE INPUT: true; the input reads as it did. -/
def filmUnlikeSpec : ChangeSpec := { name := "filmUnlike", fn := fun _ => fun
  | [d1, d2, d3, d4, d5] => { results := [.lit (.bool true)], args := [d1, d2, d3, d4, d5] }
  | _ => none }
def filmUnlikeRow : OpenClaim := { program := "ytknphhcppllpoaadoor", sum := "b39ab3acaabee8c11b2d3c0bbd2a614e8f937c4d02af2908228247294a0c2520", func := "emulsion/emulsionlaw4.FilmUnlike", spec := "filmUnlike", inPlace := ["internal/bytealg.IndexByteString", "internal/bytealg.IndexString"], named := ["unicode/utf8.first", "unicode/utf8.acceptRanges", "internal/bytealg.MaxLen"], apart := false, laid := [("unicode/utf8.acceptRanges", laid_unicode_utf8_acceptRanges), ("unicode/utf8.first", laid_unicode_utf8_first)] }
def FilmUnlikeSaid : Prop := filmUnlikeRow.holds Tryd.pinned (OpenSpec.ofChange filmUnlikeSpec)

/-- ITS FALSE NEIGHBOUR: 'it returns false'. Refute it at one input. -/
def filmUnlikeWrong : ChangeSpec := { name := "filmUnlike", fn := fun _ => fun
  | [d1, d2, d3, d4, d5] => { results := [.lit (.bool false)], args := [d1, d2, d3, d4, d5] }
  | _ => none }
def FilmUnlikeWrongFalsely : Prop := filmUnlikeRow.holds Tryd.pinned (OpenSpec.ofChange filmUnlikeWrong)

/-- 'emulsionlaw4.FilmParts': WHATEVER THE INPUT: true; the input reads as it did. -/
def filmPartsSpec : ChangeSpec := { name := "filmParts", fn := fun _ => fun
  | [d1, d2, d3, d4] => { results := [.lit (.bool true)], args := [d1, d2, d3, d4] }
  | _ => none }
def filmPartsRow : OpenClaim := { program := "ytknphhcppllpoaadoor", sum := "b39ab3acaabee8c11b2d3c0bbd2a614e8f937c4d02af2908228247294a0c2520", func := "emulsion/emulsionlaw4.FilmParts", spec := "filmParts", inPlace := ["internal/bytealg.IndexByteString", "internal/bytealg.IndexString"], named := ["unicode/utf8.first", "unicode/utf8.acceptRanges", "internal/bytealg.MaxLen"], apart := false, laid := [("unicode/utf8.acceptRanges", laid_unicode_utf8_acceptRanges), ("unicode/utf8.first", laid_unicode_utf8_first)] }
def FilmPartsSaid : Prop := filmPartsRow.holds Tryd.pinned (OpenSpec.ofChange filmPartsSpec)

/-- ITS FALSE NEIGHBOUR: 'it returns false'. Refute it at one input. -/
def filmPartsWrong : ChangeSpec := { name := "filmParts", fn := fun _ => fun
  | [d1, d2, d3, d4] => { results := [.lit (.bool false)], args := [d1, d2, d3, d4] }
  | _ => none }
def FilmPartsWrongFalsely : Prop := filmPartsRow.holds Tryd.pinned (OpenSpec.ofChange filmPartsWrong)

/-- 'emulsionlaw4.FilmCopies': WHATEVER THE INPUT: true; the input reads as it did. -/
def filmCopiesSpec : ChangeSpec := { name := "filmCopies", fn := fun _ => fun
  | [d1, d2, d3, d4] => { results := [.lit (.bool true)], args := [d1, d2, d3, d4] }
  | _ => none }
def filmCopiesRow : OpenClaim := { program := "ytknphhcppllpoaadoor", sum := "b39ab3acaabee8c11b2d3c0bbd2a614e8f937c4d02af2908228247294a0c2520", func := "emulsion/emulsionlaw4.FilmCopies", spec := "filmCopies", inPlace := ["internal/bytealg.IndexByteString", "internal/bytealg.IndexString"], named := ["unicode/utf8.first", "unicode/utf8.acceptRanges", "internal/bytealg.MaxLen"], apart := false, laid := [("unicode/utf8.acceptRanges", laid_unicode_utf8_acceptRanges), ("unicode/utf8.first", laid_unicode_utf8_first)] }
def FilmCopiesSaid : Prop := filmCopiesRow.holds Tryd.pinned (OpenSpec.ofChange filmCopiesSpec)

/-- ITS FALSE NEIGHBOUR: 'it returns false'. Refute it at one input. -/
def filmCopiesWrong : ChangeSpec := { name := "filmCopies", fn := fun _ => fun
  | [d1, d2, d3, d4] => { results := [.lit (.bool false)], args := [d1, d2, d3, d4] }
  | _ => none }
def FilmCopiesWrongFalsely : Prop := filmCopiesRow.holds Tryd.pinned (OpenSpec.ofChange filmCopiesWrong)

/- THE SECOND FORM. 'bulk': how many values and letters a reading holds, each counted each time it is reached (what is shared counts as often as it is met; a slice's spare places count too). A statement '..UptoSaid' is the law's where the arguments, and the package variables that the reading takes, are together of bulk at most 1048576: NARROWER than '..Said'. Prove '..Said' where nothing that the law and all that it calls make is longer than what came in: it says more and counts as full. Else prove '..UptoSaid'. A law counts once. -/
mutual
def uptoBulk {H : Type} : DataW H → Nat
  | .lit (.string bytes) => bytes.length + 1
  | .lit _ => 1
  | .nil => 1
  | .ptr d => uptoBulk d + 1
  | .slice elems spare => uptoBulkAll elems + uptoBulkAll spare + 1
  | .agg parts => uptoBulkAll parts + 1
  | .iface _ d => uptoBulk d + 1
  | .map entries => uptoBulkEntries entries + 1
  | .held _ => 1
def uptoBulkAll {H : Type} : List (DataW H) → Nat
  | [] => 0
  | d :: r => uptoBulk d + uptoBulkAll r
def uptoBulkEntries {H : Type} : List (Lit × DataW H) → Nat
  | [] => 0
  | x :: r => uptoBulkEntry x + uptoBulkEntries r
def uptoBulkEntry {H : Type} : Lit × DataW H → Nat
  | (.string bytes, d) => bytes.length + uptoBulk d + 1
  | (_, d) => uptoBulk d + 1
 end
def uptoSmall : (H : Type) → List (DataW H) → Bool := fun _ ds => decide (uptoBulkAll ds ≤ 1048576)
def OpenSpec.upto (s : _root_.Go.ChangeSpec) : _root_.Go.OpenSpec := { _root_.Go.OpenSpec.ofChange s with cond := some uptoSmall }

/-- 'emulsionlaw4.FilmBlocks', WHERE WHAT IT READS IS OF BULK AT MOST 1048576: true; the input reads as it did. -/
def filmBlocksUptoRow : OpenClaim := { program := "ytknphhcppllpoaadoor", sum := "b39ab3acaabee8c11b2d3c0bbd2a614e8f937c4d02af2908228247294a0c2520", func := "emulsion/emulsionlaw4.FilmBlocks", spec := "filmBlocks", inPlace := ["internal/bytealg.IndexByteString", "internal/bytealg.IndexString"], named := ["unicode/utf8.first", "unicode/utf8.acceptRanges", "internal/bytealg.MaxLen"], apart := false, laid := [("unicode/utf8.acceptRanges", laid_unicode_utf8_acceptRanges), ("unicode/utf8.first", laid_unicode_utf8_first)], narrowed := true }
def FilmBlocksUptoSaid : Prop := filmBlocksUptoRow.holds Tryd.pinned (OpenSpec.upto filmBlocksSpec)

/-- 'emulsionlaw4.FilmUnlike', WHERE WHAT IT READS IS OF BULK AT MOST 1048576: true; the input reads as it did. -/
def filmUnlikeUptoRow : OpenClaim := { program := "ytknphhcppllpoaadoor", sum := "b39ab3acaabee8c11b2d3c0bbd2a614e8f937c4d02af2908228247294a0c2520", func := "emulsion/emulsionlaw4.FilmUnlike", spec := "filmUnlike", inPlace := ["internal/bytealg.IndexByteString", "internal/bytealg.IndexString"], named := ["unicode/utf8.first", "unicode/utf8.acceptRanges", "internal/bytealg.MaxLen"], apart := false, laid := [("unicode/utf8.acceptRanges", laid_unicode_utf8_acceptRanges), ("unicode/utf8.first", laid_unicode_utf8_first)], narrowed := true }
def FilmUnlikeUptoSaid : Prop := filmUnlikeUptoRow.holds Tryd.pinned (OpenSpec.upto filmUnlikeSpec)

/-- 'emulsionlaw4.FilmParts', WHERE WHAT IT READS IS OF BULK AT MOST 1048576: true; the input reads as it did. -/
def filmPartsUptoRow : OpenClaim := { program := "ytknphhcppllpoaadoor", sum := "b39ab3acaabee8c11b2d3c0bbd2a614e8f937c4d02af2908228247294a0c2520", func := "emulsion/emulsionlaw4.FilmParts", spec := "filmParts", inPlace := ["internal/bytealg.IndexByteString", "internal/bytealg.IndexString"], named := ["unicode/utf8.first", "unicode/utf8.acceptRanges", "internal/bytealg.MaxLen"], apart := false, laid := [("unicode/utf8.acceptRanges", laid_unicode_utf8_acceptRanges), ("unicode/utf8.first", laid_unicode_utf8_first)], narrowed := true }
def FilmPartsUptoSaid : Prop := filmPartsUptoRow.holds Tryd.pinned (OpenSpec.upto filmPartsSpec)

/-- 'emulsionlaw4.FilmCopies', WHERE WHAT IT READS IS OF BULK AT MOST 1048576: true; the input reads as it did. -/
def filmCopiesUptoRow : OpenClaim := { program := "ytknphhcppllpoaadoor", sum := "b39ab3acaabee8c11b2d3c0bbd2a614e8f937c4d02af2908228247294a0c2520", func := "emulsion/emulsionlaw4.FilmCopies", spec := "filmCopies", inPlace := ["internal/bytealg.IndexByteString", "internal/bytealg.IndexString"], named := ["unicode/utf8.first", "unicode/utf8.acceptRanges", "internal/bytealg.MaxLen"], apart := false, laid := [("unicode/utf8.acceptRanges", laid_unicode_utf8_acceptRanges), ("unicode/utf8.first", laid_unicode_utf8_first)], narrowed := true }
def FilmCopiesUptoSaid : Prop := filmCopiesUptoRow.holds Tryd.pinned (OpenSpec.upto filmCopiesSpec)

end Rows
end Go.Proofs.YtknphhcppllpoaaDoor
