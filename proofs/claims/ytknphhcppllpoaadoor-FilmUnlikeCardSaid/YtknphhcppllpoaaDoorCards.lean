/-
  DERIVED. GIVEN WITH THE SEED: THE CARDS: each row of YtknphhcppllpoaaDoorRows.lean that lists a variable, with what it lists TIED to the program's text (the seventh form; the later family's looks); each row that meets fmt, with fmt's text TOLD by the authors' own Lean function (tested against real Go, not proved from fmt's source: count such statements apart). THE CARD IS WHAT COUNTS. Prove the row's statement (the work); the ties are given (YtknphhcppllpoaaDoorTie.lean); close each card by the builder's one call (the guide's Derived/Test/ToyasCard.lean, 'card_holds'). Laid BY PROGRAM, IN A SANDBOX (cutbox-door.mjs). By AI agents, Wed Nov 11 2026. No macro, syntax, notation, axiom, sorry.
-/
import Derived.Test.YtknphhcppllpoaaDoorRows
import GoSem.ClaimSeven
namespace Go.Proofs.YtknphhcppllpoaaDoor
namespace Rows

/-- THE TIED CARD OF 'emulsionlaw4.FilmBlocks'. -/
def filmBlocksCard : Claim7 := { stood := { row := filmBlocksRow, standIns := [], harness := (true, "360ec3c64233dc1c3d28ebf8e7f6b859e839350796d4e0b45e44bac70e176b5d"), looks := false }, kinds := [], alts := [], laidByText := true, laidKinds := [.data, .pinned], laidTests := true, laidLooks := .later }
def FilmBlocksCardSaid : Prop := Claim7.holds Tryd.pinned (.plain (OpenSpec.ofChange filmBlocksSpec)) filmBlocksCard

/-- THE TIED CARD OF 'emulsionlaw4.FilmUnlike'. -/
def filmUnlikeCard : Claim7 := { stood := { row := filmUnlikeRow, standIns := [], harness := (true, "360ec3c64233dc1c3d28ebf8e7f6b859e839350796d4e0b45e44bac70e176b5d"), looks := false }, kinds := [], alts := [], laidByText := true, laidKinds := [.data, .pinned], laidTests := true, laidLooks := .later }
def FilmUnlikeCardSaid : Prop := Claim7.holds Tryd.pinned (.plain (OpenSpec.ofChange filmUnlikeSpec)) filmUnlikeCard

/-- THE TIED CARD OF 'emulsionlaw4.FilmParts'. -/
def filmPartsCard : Claim7 := { stood := { row := filmPartsRow, standIns := [], harness := (true, "360ec3c64233dc1c3d28ebf8e7f6b859e839350796d4e0b45e44bac70e176b5d"), looks := false }, kinds := [], alts := [], laidByText := true, laidKinds := [.data, .pinned], laidTests := true, laidLooks := .later }
def FilmPartsCardSaid : Prop := Claim7.holds Tryd.pinned (.plain (OpenSpec.ofChange filmPartsSpec)) filmPartsCard

/-- THE TIED CARD OF 'emulsionlaw4.FilmCopies'. -/
def filmCopiesCard : Claim7 := { stood := { row := filmCopiesRow, standIns := [], harness := (true, "360ec3c64233dc1c3d28ebf8e7f6b859e839350796d4e0b45e44bac70e176b5d"), looks := false }, kinds := [], alts := [], laidByText := true, laidKinds := [.data, .pinned], laidTests := true, laidLooks := .later }
def FilmCopiesCardSaid : Prop := Claim7.holds Tryd.pinned (.plain (OpenSpec.ofChange filmCopiesSpec)) filmCopiesCard

/-- THE SECOND FORM's CARD OF 'emulsionlaw4.FilmBlocks'. -/
def filmBlocksUptoCard : Claim7 := { stood := { row := filmBlocksUptoRow, standIns := [], harness := (true, "360ec3c64233dc1c3d28ebf8e7f6b859e839350796d4e0b45e44bac70e176b5d"), looks := false }, kinds := [], alts := [], laidByText := true, laidKinds := [.data, .pinned], laidTests := true, laidLooks := .later }
def FilmBlocksUptoCardSaid : Prop := Claim7.holds Tryd.pinned (.plain (OpenSpec.upto filmBlocksSpec)) filmBlocksUptoCard

/-- THE SECOND FORM's CARD OF 'emulsionlaw4.FilmUnlike'. -/
def filmUnlikeUptoCard : Claim7 := { stood := { row := filmUnlikeUptoRow, standIns := [], harness := (true, "360ec3c64233dc1c3d28ebf8e7f6b859e839350796d4e0b45e44bac70e176b5d"), looks := false }, kinds := [], alts := [], laidByText := true, laidKinds := [.data, .pinned], laidTests := true, laidLooks := .later }
def FilmUnlikeUptoCardSaid : Prop := Claim7.holds Tryd.pinned (.plain (OpenSpec.upto filmUnlikeSpec)) filmUnlikeUptoCard

/-- THE SECOND FORM's CARD OF 'emulsionlaw4.FilmParts'. -/
def filmPartsUptoCard : Claim7 := { stood := { row := filmPartsUptoRow, standIns := [], harness := (true, "360ec3c64233dc1c3d28ebf8e7f6b859e839350796d4e0b45e44bac70e176b5d"), looks := false }, kinds := [], alts := [], laidByText := true, laidKinds := [.data, .pinned], laidTests := true, laidLooks := .later }
def FilmPartsUptoCardSaid : Prop := Claim7.holds Tryd.pinned (.plain (OpenSpec.upto filmPartsSpec)) filmPartsUptoCard

/-- THE SECOND FORM's CARD OF 'emulsionlaw4.FilmCopies'. -/
def filmCopiesUptoCard : Claim7 := { stood := { row := filmCopiesUptoRow, standIns := [], harness := (true, "360ec3c64233dc1c3d28ebf8e7f6b859e839350796d4e0b45e44bac70e176b5d"), looks := false }, kinds := [], alts := [], laidByText := true, laidKinds := [.data, .pinned], laidTests := true, laidLooks := .later }
def FilmCopiesUptoCardSaid : Prop := Claim7.holds Tryd.pinned (.plain (OpenSpec.upto filmCopiesSpec)) filmCopiesUptoCard
end Rows
end Go.Proofs.YtknphhcppllpoaaDoor
