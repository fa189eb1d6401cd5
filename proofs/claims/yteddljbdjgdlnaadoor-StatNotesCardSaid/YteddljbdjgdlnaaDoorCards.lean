/-
  DERIVED. GIVEN WITH THE SEED: THE CARDS: each row of YteddljbdjgdlnaaDoorRows.lean that lists a variable, with what it lists TIED to the program's text (the seventh form; the later family's looks); each row that meets fmt, with fmt's text TOLD by the authors' own Lean function (tested against real Go, not proved from fmt's source: count such statements apart). THE CARD IS WHAT COUNTS. Prove the row's statement (the work); the ties are given (YteddljbdjgdlnaaDoorTie.lean); close each card by the builder's one call (the guide's Derived/Test/ToyasCard.lean, 'card_holds'). Laid BY PROGRAM, IN A SANDBOX (cutbox-door.mjs). By AI agents, Wed Nov 11 2026. No macro, syntax, notation, axiom, sorry.
-/
import Derived.Test.YteddljbdjgdlnaaDoorRows
import GoSem.ClaimSeven
namespace Go.Proofs.YteddljbdjgdlnaaDoor
namespace Rows

/-- THE TIED CARD OF 'tallboylaw32.StatNotes'. -/
def statNotesCard : Claim7 := { stood := { row := statNotesRow, standIns := [], harness := (true, "9cfdd503292eaca65568d0528a1dd0727788162c6074721f40c005bbd19ca335"), looks := false }, kinds := [], alts := [], laidByText := true, laidKinds := [.data, .data, .data], laidTests := true, laidLooks := .later }
def StatNotesCardSaid : Prop := Claim7.holds Tryd.pinned (.plain (OpenSpec.ofChange statNotesSpec)) statNotesCard

/-- THE TIED CARD OF 'tallboylaw30.ImageWrites'. -/
def imageWritesCard : Claim7 := { stood := { row := imageWritesRow, standIns := [], harness := (true, "9cfdd503292eaca65568d0528a1dd0727788162c6074721f40c005bbd19ca335"), looks := false }, kinds := [], alts := [], laidByText := true, laidKinds := [.data, .pinned], laidTests := true, laidLooks := .later }
def ImageWritesCardSaid : Prop := Claim7.holds Tryd.pinned (.plain (OpenSpec.ofChange imageWritesSpec)) imageWritesCard

/-- THE TIED CARD OF 'tallboylaw32.StatBack'. -/
def statBackCard : Claim7 := { stood := { row := statBackRow, standIns := [], harness := (true, "9cfdd503292eaca65568d0528a1dd0727788162c6074721f40c005bbd19ca335"), looks := false }, kinds := [], alts := [], laidByText := true, laidKinds := [.data, .data, .data, .data, .pinned], laidTests := true, laidLooks := .later }
def StatBackCardSaid : Prop := Claim7.holds Tryd.pinned (.plain (OpenSpec.ofChange statBackSpec)) statBackCard

/-- THE TIED CARD OF 'tallboylaw32.StatParts'. -/
def statPartsCard : Claim7 := { stood := { row := statPartsRow, standIns := [], harness := (true, "9cfdd503292eaca65568d0528a1dd0727788162c6074721f40c005bbd19ca335"), looks := false }, kinds := [], alts := [], laidByText := true, laidKinds := [.data, .data, .data, .data, .pinned], laidTests := true, laidLooks := .later }
def StatPartsCardSaid : Prop := Claim7.holds Tryd.pinned (.plain (OpenSpec.ofChange statPartsSpec)) statPartsCard

/-- THE SECOND FORM's CARD OF 'tallboylaw32.StatNotes'. -/
def statNotesUptoCard : Claim7 := { stood := { row := statNotesUptoRow, standIns := [], harness := (true, "9cfdd503292eaca65568d0528a1dd0727788162c6074721f40c005bbd19ca335"), looks := false }, kinds := [], alts := [], laidByText := true, laidKinds := [.data, .data, .data], laidTests := true, laidLooks := .later }
def StatNotesUptoCardSaid : Prop := Claim7.holds Tryd.pinned (.plain (OpenSpec.upto statNotesSpec)) statNotesUptoCard

/-- THE SECOND FORM's CARD OF 'tallboylaw30.ImageWrites'. -/
def imageWritesUptoCard : Claim7 := { stood := { row := imageWritesUptoRow, standIns := [], harness := (true, "9cfdd503292eaca65568d0528a1dd0727788162c6074721f40c005bbd19ca335"), looks := false }, kinds := [], alts := [], laidByText := true, laidKinds := [.data, .pinned], laidTests := true, laidLooks := .later }
def ImageWritesUptoCardSaid : Prop := Claim7.holds Tryd.pinned (.plain (OpenSpec.upto imageWritesSpec)) imageWritesUptoCard

/-- THE SECOND FORM's CARD OF 'tallboylaw32.StatBack'. -/
def statBackUptoCard : Claim7 := { stood := { row := statBackUptoRow, standIns := [], harness := (true, "9cfdd503292eaca65568d0528a1dd0727788162c6074721f40c005bbd19ca335"), looks := false }, kinds := [], alts := [], laidByText := true, laidKinds := [.data, .data, .data, .data, .pinned], laidTests := true, laidLooks := .later }
def StatBackUptoCardSaid : Prop := Claim7.holds Tryd.pinned (.plain (OpenSpec.upto statBackSpec)) statBackUptoCard

/-- THE SECOND FORM's CARD OF 'tallboylaw32.StatParts'. -/
def statPartsUptoCard : Claim7 := { stood := { row := statPartsUptoRow, standIns := [], harness := (true, "9cfdd503292eaca65568d0528a1dd0727788162c6074721f40c005bbd19ca335"), looks := false }, kinds := [], alts := [], laidByText := true, laidKinds := [.data, .data, .data, .data, .pinned], laidTests := true, laidLooks := .later }
def StatPartsUptoCardSaid : Prop := Claim7.holds Tryd.pinned (.plain (OpenSpec.upto statPartsSpec)) statPartsUptoCard
end Rows
end Go.Proofs.YteddljbdjgdlnaaDoor
