/-
  DERIVED. GIVEN WITH THE SEED: THE CARDS: each row of YtaolblgmpiobeaaDoorRows.lean that lists a variable, with what it lists TIED to the program's text (the seventh form; the later family's looks); each row that meets fmt, with fmt's text TOLD by the authors' own Lean function (tested against real Go, not proved from fmt's source: count such statements apart). THE CARD IS WHAT COUNTS. Prove the row's statement (the work); the ties are given (YtaolblgmpiobeaaDoorTie.lean); close each card by the builder's one call (the guide's Derived/Test/ToyasCard.lean, 'card_holds'). Laid BY PROGRAM, IN A SANDBOX (cutbox-door.mjs). By AI agents, Wed Nov 11 2026. No macro, syntax, notation, axiom, sorry.
-/
import Derived.Test.YtaolblgmpiobeaaDoorRows
import GoSem.ClaimSeven
namespace Go.Proofs.YtaolblgmpiobeaaDoor
namespace Rows

/-- THE TIED CARD OF 'tallboylaw16.ModelSums'. -/
def modelSumsCard : Claim7 := { stood := { row := modelSumsRow, standIns := [], harness := (true, "ba3a5caf25cac58b884ebc3d6e448e4622180f2cafe839df8352222d93f2b431"), looks := true }, kinds := [], alts := [], laidByText := true, laidKinds := [.data, .data, .data, .data, .sentinel, .sentinel, .pinned], laidTests := true, laidLooks := .later }
def ModelSumsCardSaid : Prop := Claim7.holds Tryd.pinned (.plain (OpenSpec.ofChange modelSumsSpec)) modelSumsCard

/-- THE TIED CARD OF 'tallboylaw16.ModelJoins'. -/
def modelJoinsCard : Claim7 := { stood := { row := modelJoinsRow, standIns := [], harness := (true, "ba3a5caf25cac58b884ebc3d6e448e4622180f2cafe839df8352222d93f2b431"), looks := true }, kinds := [], alts := [], laidByText := true, laidKinds := [.data, .data, .data, .data, .sentinel, .sentinel, .pinned], laidTests := true, laidLooks := .later }
def ModelJoinsCardSaid : Prop := Claim7.holds Tryd.pinned (.plain (OpenSpec.ofChange modelJoinsSpec)) modelJoinsCard

/-- THE TIED CARD OF 'tallboylaw16.ModelTouches'. -/
def modelTouchesCard : Claim7 := { stood := { row := modelTouchesRow, standIns := [], harness := (true, "ba3a5caf25cac58b884ebc3d6e448e4622180f2cafe839df8352222d93f2b431"), looks := true }, kinds := [], alts := [], laidByText := true, laidKinds := [.data, .data, .data, .data, .sentinel, .sentinel, .pinned], laidTests := true, laidLooks := .later }
def ModelTouchesCardSaid : Prop := Claim7.holds Tryd.pinned (.plain (OpenSpec.ofChange modelTouchesSpec)) modelTouchesCard

/-- THE TIED CARD OF 'tallboylaw16.ModelAlone'. -/
def modelAloneCard : Claim7 := { stood := { row := modelAloneRow, standIns := [], harness := (true, "ba3a5caf25cac58b884ebc3d6e448e4622180f2cafe839df8352222d93f2b431"), looks := true }, kinds := [], alts := [], laidByText := true, laidKinds := [.data, .data, .data, .data, .sentinel, .sentinel, .pinned], laidTests := true, laidLooks := .later }
def ModelAloneCardSaid : Prop := Claim7.holds Tryd.pinned (.plain (OpenSpec.ofChange modelAloneSpec)) modelAloneCard

/-- THE TIED CARD OF 'tallboylaw16.ModelReads'. -/
def modelReadsCard : Claim7 := { stood := { row := modelReadsRow, standIns := [], harness := (true, "ba3a5caf25cac58b884ebc3d6e448e4622180f2cafe839df8352222d93f2b431"), looks := true }, kinds := [], alts := [], laidByText := true, laidKinds := [.data, .data, .data, .data, .sentinel, .sentinel, .pinned], laidTests := true, laidLooks := .later }
def ModelReadsCardSaid : Prop := Claim7.holds Tryd.pinned (.plain (OpenSpec.ofChange modelReadsSpec)) modelReadsCard

/-- THE SECOND FORM's CARD OF 'tallboylaw16.ModelSums'. -/
def modelSumsUptoCard : Claim7 := { stood := { row := modelSumsUptoRow, standIns := [], harness := (true, "ba3a5caf25cac58b884ebc3d6e448e4622180f2cafe839df8352222d93f2b431"), looks := true }, kinds := [], alts := [], laidByText := true, laidKinds := [.data, .data, .data, .data, .sentinel, .sentinel, .pinned], laidTests := true, laidLooks := .later }
def ModelSumsUptoCardSaid : Prop := Claim7.holds Tryd.pinned (.plain (OpenSpec.upto modelSumsSpec)) modelSumsUptoCard

/-- THE SECOND FORM's CARD OF 'tallboylaw16.ModelJoins'. -/
def modelJoinsUptoCard : Claim7 := { stood := { row := modelJoinsUptoRow, standIns := [], harness := (true, "ba3a5caf25cac58b884ebc3d6e448e4622180f2cafe839df8352222d93f2b431"), looks := true }, kinds := [], alts := [], laidByText := true, laidKinds := [.data, .data, .data, .data, .sentinel, .sentinel, .pinned], laidTests := true, laidLooks := .later }
def ModelJoinsUptoCardSaid : Prop := Claim7.holds Tryd.pinned (.plain (OpenSpec.upto modelJoinsSpec)) modelJoinsUptoCard

/-- THE SECOND FORM's CARD OF 'tallboylaw16.ModelTouches'. -/
def modelTouchesUptoCard : Claim7 := { stood := { row := modelTouchesUptoRow, standIns := [], harness := (true, "ba3a5caf25cac58b884ebc3d6e448e4622180f2cafe839df8352222d93f2b431"), looks := true }, kinds := [], alts := [], laidByText := true, laidKinds := [.data, .data, .data, .data, .sentinel, .sentinel, .pinned], laidTests := true, laidLooks := .later }
def ModelTouchesUptoCardSaid : Prop := Claim7.holds Tryd.pinned (.plain (OpenSpec.upto modelTouchesSpec)) modelTouchesUptoCard

/-- THE SECOND FORM's CARD OF 'tallboylaw16.ModelAlone'. -/
def modelAloneUptoCard : Claim7 := { stood := { row := modelAloneUptoRow, standIns := [], harness := (true, "ba3a5caf25cac58b884ebc3d6e448e4622180f2cafe839df8352222d93f2b431"), looks := true }, kinds := [], alts := [], laidByText := true, laidKinds := [.data, .data, .data, .data, .sentinel, .sentinel, .pinned], laidTests := true, laidLooks := .later }
def ModelAloneUptoCardSaid : Prop := Claim7.holds Tryd.pinned (.plain (OpenSpec.upto modelAloneSpec)) modelAloneUptoCard

/-- THE SECOND FORM's CARD OF 'tallboylaw16.ModelReads'. -/
def modelReadsUptoCard : Claim7 := { stood := { row := modelReadsUptoRow, standIns := [], harness := (true, "ba3a5caf25cac58b884ebc3d6e448e4622180f2cafe839df8352222d93f2b431"), looks := true }, kinds := [], alts := [], laidByText := true, laidKinds := [.data, .data, .data, .data, .sentinel, .sentinel, .pinned], laidTests := true, laidLooks := .later }
def ModelReadsUptoCardSaid : Prop := Claim7.holds Tryd.pinned (.plain (OpenSpec.upto modelReadsSpec)) modelReadsUptoCard
end Rows
end Go.Proofs.YtaolblgmpiobeaaDoor
