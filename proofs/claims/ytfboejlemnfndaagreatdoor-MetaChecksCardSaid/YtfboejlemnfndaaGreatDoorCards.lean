/-
  DERIVED. GIVEN WITH THE SEED: THE CARDS: each row of YtfboejlemnfndaaGreatDoorRows.lean that lists a variable, with what it lists TIED to the program's text (the seventh form; the later family's looks); each row that meets fmt, with fmt's text TOLD by the authors' own Lean function (tested against real Go, not proved from fmt's source: count such statements apart). THE CARD IS WHAT COUNTS. Prove the row's statement (the work); the ties are given (YtfboejlemnfndaaGreatDoorTie.lean); close each card by the builder's one call (the guide's Derived/Test/ToyasCard.lean, 'card_holds'). Laid BY PROGRAM, IN A SANDBOX (cutbox-door.mjs). By AI agents, Wed Nov 11 2026. No macro, syntax, notation, axiom, sorry.
-/
import Derived.Test.YtfboejlemnfndaaGreatDoorRows
import GoSem.ClaimSeven
namespace Go.Proofs.YtfboejlemnfndaaGreatDoor
namespace Rows

/-- THE TIED CARD OF 'tallboylaw27.MetaChecks'. -/
def metaChecksCard : Claim7 := { stood := { row := metaChecksRow, standIns := [], harness := (true, "4d8b909c68c619b391f5db9ea20814aab365b7f1a432072362459791d54e99d8"), looks := true }, kinds := [], alts := [], laidByText := true, laidKinds := [.data, .data, .data, .sentinel, .sentinel], laidTests := true, laidLooks := .later }
def MetaChecksCardSaid : Prop := Claim7.holds Tryz.pinned (.plain (OpenSpec.ofChange metaChecksSpec)) metaChecksCard

/-- THE TIED CARD OF 'tallboylaw27.MetaReads'. -/
def metaReadsCard : Claim7 := { stood := { row := metaReadsRow, standIns := [], harness := (true, "4d8b909c68c619b391f5db9ea20814aab365b7f1a432072362459791d54e99d8"), looks := true }, kinds := [], alts := [], laidByText := true, laidKinds := [.data, .data, .data, .data, .sentinel, .sentinel, .pinned], laidTests := true, laidLooks := .later }
def MetaReadsCardSaid : Prop := Claim7.holds Tryz.pinned (.plain (OpenSpec.ofChange metaReadsSpec)) metaReadsCard

/-- THE TIED CARD OF 'tallboylaw27.MetaBack'. -/
def metaBackCard : Claim7 := { stood := { row := metaBackRow, standIns := [], harness := (true, "4d8b909c68c619b391f5db9ea20814aab365b7f1a432072362459791d54e99d8"), looks := true }, kinds := [], alts := [], laidByText := true, laidKinds := [.data, .data, .data, .data, .sentinel, .sentinel, .pinned], laidTests := true, laidLooks := .later }
def MetaBackCardSaid : Prop := Claim7.holds Tryz.pinned (.plain (OpenSpec.ofChange metaBackSpec)) metaBackCard

/-- THE TIED CARD OF 'tallboylaw27.MetaCodes'. -/
def metaCodesCard : Claim7 := { stood := { row := metaCodesRow, standIns := [], harness := (true, "4d8b909c68c619b391f5db9ea20814aab365b7f1a432072362459791d54e99d8"), looks := true }, kinds := [], alts := [], laidByText := true, laidKinds := [.data, .data, .data, .data, .sentinel, .sentinel, .pinned], laidTests := true, laidLooks := .later }
def MetaCodesCardSaid : Prop := Claim7.holds Tryz.pinned (.plain (OpenSpec.ofChange metaCodesSpec)) metaCodesCard

/-- THE TIED CARD OF 'tallboylaw27.MetaTwice'. -/
def metaTwiceCard : Claim7 := { stood := { row := metaTwiceRow, standIns := [], harness := (true, "4d8b909c68c619b391f5db9ea20814aab365b7f1a432072362459791d54e99d8"), looks := true }, kinds := [], alts := [], laidByText := true, laidKinds := [.data, .data, .data, .data, .sentinel, .sentinel, .pinned], laidTests := true, laidLooks := .later }
def MetaTwiceCardSaid : Prop := Claim7.holds Tryz.pinned (.plain (OpenSpec.ofChange metaTwiceSpec)) metaTwiceCard

/-- THE TIED CARD OF 'tallboylaw27.MetaOrder'. -/
def metaOrderCard : Claim7 := { stood := { row := metaOrderRow, standIns := [], harness := (true, "4d8b909c68c619b391f5db9ea20814aab365b7f1a432072362459791d54e99d8"), looks := true }, kinds := [], alts := [], laidByText := true, laidKinds := [.data, .data, .data, .data, .sentinel, .sentinel, .pinned], laidTests := true, laidLooks := .later }
def MetaOrderCardSaid : Prop := Claim7.holds Tryz.pinned (.plain (OpenSpec.ofChange metaOrderSpec)) metaOrderCard

/-- THE SECOND FORM's CARD OF 'tallboylaw27.MetaChecks'. -/
def metaChecksUptoCard : Claim7 := { stood := { row := metaChecksUptoRow, standIns := [], harness := (true, "4d8b909c68c619b391f5db9ea20814aab365b7f1a432072362459791d54e99d8"), looks := true }, kinds := [], alts := [], laidByText := true, laidKinds := [.data, .data, .data, .sentinel, .sentinel], laidTests := true, laidLooks := .later }
def MetaChecksUptoCardSaid : Prop := Claim7.holds Tryz.pinned (.plain (OpenSpec.upto metaChecksSpec)) metaChecksUptoCard

/-- THE SECOND FORM's CARD OF 'tallboylaw27.MetaReads'. -/
def metaReadsUptoCard : Claim7 := { stood := { row := metaReadsUptoRow, standIns := [], harness := (true, "4d8b909c68c619b391f5db9ea20814aab365b7f1a432072362459791d54e99d8"), looks := true }, kinds := [], alts := [], laidByText := true, laidKinds := [.data, .data, .data, .data, .sentinel, .sentinel, .pinned], laidTests := true, laidLooks := .later }
def MetaReadsUptoCardSaid : Prop := Claim7.holds Tryz.pinned (.plain (OpenSpec.upto metaReadsSpec)) metaReadsUptoCard

/-- THE SECOND FORM's CARD OF 'tallboylaw27.MetaBack'. -/
def metaBackUptoCard : Claim7 := { stood := { row := metaBackUptoRow, standIns := [], harness := (true, "4d8b909c68c619b391f5db9ea20814aab365b7f1a432072362459791d54e99d8"), looks := true }, kinds := [], alts := [], laidByText := true, laidKinds := [.data, .data, .data, .data, .sentinel, .sentinel, .pinned], laidTests := true, laidLooks := .later }
def MetaBackUptoCardSaid : Prop := Claim7.holds Tryz.pinned (.plain (OpenSpec.upto metaBackSpec)) metaBackUptoCard

/-- THE SECOND FORM's CARD OF 'tallboylaw27.MetaCodes'. -/
def metaCodesUptoCard : Claim7 := { stood := { row := metaCodesUptoRow, standIns := [], harness := (true, "4d8b909c68c619b391f5db9ea20814aab365b7f1a432072362459791d54e99d8"), looks := true }, kinds := [], alts := [], laidByText := true, laidKinds := [.data, .data, .data, .data, .sentinel, .sentinel, .pinned], laidTests := true, laidLooks := .later }
def MetaCodesUptoCardSaid : Prop := Claim7.holds Tryz.pinned (.plain (OpenSpec.upto metaCodesSpec)) metaCodesUptoCard

/-- THE SECOND FORM's CARD OF 'tallboylaw27.MetaTwice'. -/
def metaTwiceUptoCard : Claim7 := { stood := { row := metaTwiceUptoRow, standIns := [], harness := (true, "4d8b909c68c619b391f5db9ea20814aab365b7f1a432072362459791d54e99d8"), looks := true }, kinds := [], alts := [], laidByText := true, laidKinds := [.data, .data, .data, .data, .sentinel, .sentinel, .pinned], laidTests := true, laidLooks := .later }
def MetaTwiceUptoCardSaid : Prop := Claim7.holds Tryz.pinned (.plain (OpenSpec.upto metaTwiceSpec)) metaTwiceUptoCard

/-- THE SECOND FORM's CARD OF 'tallboylaw27.MetaOrder'. -/
def metaOrderUptoCard : Claim7 := { stood := { row := metaOrderUptoRow, standIns := [], harness := (true, "4d8b909c68c619b391f5db9ea20814aab365b7f1a432072362459791d54e99d8"), looks := true }, kinds := [], alts := [], laidByText := true, laidKinds := [.data, .data, .data, .data, .sentinel, .sentinel, .pinned], laidTests := true, laidLooks := .later }
def MetaOrderUptoCardSaid : Prop := Claim7.holds Tryz.pinned (.plain (OpenSpec.upto metaOrderSpec)) metaOrderUptoCard
end Rows
end Go.Proofs.YtfboejlemnfndaaGreatDoor
