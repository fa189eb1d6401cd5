/-
  DERIVED. GIVEN WITH THE SEED: THE CARDS: each row of YtjmmknabkkainaaDoorRows.lean that lists a variable, with what it lists TIED to the program's text (the seventh form; the later family's looks); each row that meets fmt, with fmt's text TOLD by the authors' own Lean function (tested against real Go, not proved from fmt's source: count such statements apart). THE CARD IS WHAT COUNTS. Prove the row's statement (the work); the ties are given (YtjmmknabkkainaaDoorTie.lean); close each card by the builder's one call (the guide's Derived/Test/ToyasCard.lean, 'card_holds'). Laid BY PROGRAM, IN A SANDBOX (cutbox-door.mjs). By AI agents, Wed Nov 11 2026. No macro, syntax, notation, axiom, sorry.
-/
import Derived.Test.YtjmmknabkkainaaDoorRows
import GoSem.ClaimSeven
namespace Go.Proofs.YtjmmknabkkainaaDoor
namespace Rows

/-- THE TIED CARD OF 'tallboylaw28.LeaseTexts'. -/
def leaseTextsCard : Claim7 := { stood := { row := leaseTextsRow, standIns := [], harness := (true, "86d2601cf32555126e8ed96a2d9eff376a12cfa8b6b55d05d1f72fc93fe4c99b"), looks := false }, kinds := [], alts := [], laidByText := true, laidKinds := [.data, .data, .data], laidTests := true, laidLooks := .later }
def LeaseTextsCardSaid : Prop := Claim7.holds Tryd.pinned (.plain (OpenSpec.ofChange leaseTextsSpec)) leaseTextsCard

/-- THE TIED CARD OF 'tallboylaw27.MetaLetters'. -/
def metaLettersCard : Claim7 := { stood := { row := metaLettersRow, standIns := [], harness := (true, "86d2601cf32555126e8ed96a2d9eff376a12cfa8b6b55d05d1f72fc93fe4c99b"), looks := false }, kinds := [], alts := [], laidByText := true, laidKinds := [.data, .pinned], laidTests := true, laidLooks := .later }
def MetaLettersCardSaid : Prop := Claim7.holds Tryd.pinned (.plain (OpenSpec.ofChange metaLettersSpec)) metaLettersCard

/-- THE SECOND FORM's CARD OF 'tallboylaw28.LeaseTexts'. -/
def leaseTextsUptoCard : Claim7 := { stood := { row := leaseTextsUptoRow, standIns := [], harness := (true, "86d2601cf32555126e8ed96a2d9eff376a12cfa8b6b55d05d1f72fc93fe4c99b"), looks := false }, kinds := [], alts := [], laidByText := true, laidKinds := [.data, .data, .data], laidTests := true, laidLooks := .later }
def LeaseTextsUptoCardSaid : Prop := Claim7.holds Tryd.pinned (.plain (OpenSpec.upto leaseTextsSpec)) leaseTextsUptoCard

/-- THE SECOND FORM's CARD OF 'tallboylaw27.MetaLetters'. -/
def metaLettersUptoCard : Claim7 := { stood := { row := metaLettersUptoRow, standIns := [], harness := (true, "86d2601cf32555126e8ed96a2d9eff376a12cfa8b6b55d05d1f72fc93fe4c99b"), looks := false }, kinds := [], alts := [], laidByText := true, laidKinds := [.data, .pinned], laidTests := true, laidLooks := .later }
def MetaLettersUptoCardSaid : Prop := Claim7.holds Tryd.pinned (.plain (OpenSpec.upto metaLettersSpec)) metaLettersUptoCard
end Rows
end Go.Proofs.YtjmmknabkkainaaDoor
