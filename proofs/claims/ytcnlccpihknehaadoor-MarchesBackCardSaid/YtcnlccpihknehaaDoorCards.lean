/-
  DERIVED. GIVEN WITH THE SEED: THE CARDS: each row of YtcnlccpihknehaaDoorRows.lean that lists a variable, with what it lists TIED to the program's text (the seventh form; the later family's looks); each row that meets fmt, with fmt's text TOLD by the authors' own Lean function (tested against real Go, not proved from fmt's source: count such statements apart). THE CARD IS WHAT COUNTS. Prove the row's statement (the work); the ties are given (YtcnlccpihknehaaDoorTie.lean); close each card by the builder's one call (the guide's Derived/Test/ToyasCard.lean, 'card_holds'). Laid BY PROGRAM, IN A SANDBOX (cutbox-door.mjs). By AI agents, Wed Nov 11 2026. No macro, syntax, notation, axiom, sorry.
-/
import Derived.Test.YtcnlccpihknehaaDoorRows
import GoSem.ClaimSeven
namespace Go.Proofs.YtcnlccpihknehaaDoor
namespace Rows

/-- THE TIED CARD OF 'probecardlaw37.MarchesRefused'. -/
def marchesRefusedCard : Claim7 := { stood := { row := marchesRefusedRow, standIns := [], harness := (true, "9eedd2fb0f1c818c4b102ba4084a6f6c28466fcdb5bd843029b8b1e63e950f85"), looks := false }, kinds := [], alts := [], laidByText := true, laidKinds := [.data], laidTests := true, laidLooks := .later }
def MarchesRefusedCardSaid : Prop := Claim7.holds Tryd.pinned (.plain (OpenSpec.ofChange marchesRefusedSpec)) marchesRefusedCard

/-- THE TIED CARD OF 'probecardlaw37.MarchesNamed'. -/
def marchesNamedCard : Claim7 := { stood := { row := marchesNamedRow, standIns := [], harness := (true, "9eedd2fb0f1c818c4b102ba4084a6f6c28466fcdb5bd843029b8b1e63e950f85"), looks := false }, kinds := [], alts := [], laidByText := true, laidKinds := [.data], laidTests := true, laidLooks := .later }
def MarchesNamedCardSaid : Prop := Claim7.holds Tryd.pinned (.plain (OpenSpec.ofChange marchesNamedSpec)) marchesNamedCard

/-- THE TIED CARD OF 'probecardlaw37.MarchesCheck'. -/
def marchesCheckCard : Claim7 := { stood := { row := marchesCheckRow, standIns := [], harness := (true, "9eedd2fb0f1c818c4b102ba4084a6f6c28466fcdb5bd843029b8b1e63e950f85"), looks := false }, kinds := [], alts := [], laidByText := true, laidKinds := [.data], laidTests := true, laidLooks := .later }
def MarchesCheckCardSaid : Prop := Claim7.holds Tryd.pinned (.plain (OpenSpec.ofChange marchesCheckSpec)) marchesCheckCard

/-- THE TIED CARD OF 'probecardlaw37.MarchesBack'. -/
def marchesBackCard : Claim7 := { stood := { row := marchesBackRow, standIns := [], harness := (true, "9eedd2fb0f1c818c4b102ba4084a6f6c28466fcdb5bd843029b8b1e63e950f85"), looks := false }, kinds := [], alts := [], laidByText := true, laidKinds := [.data], laidTests := true, laidLooks := .later }
def MarchesBackCardSaid : Prop := Claim7.holds Tryd.pinned (.plain (OpenSpec.ofChange marchesBackSpec)) marchesBackCard

/-- THE TIED CARD OF 'probecardlaw37.MarchesTurned'. -/
def marchesTurnedCard : Claim7 := { stood := { row := marchesTurnedRow, standIns := [], harness := (true, "9eedd2fb0f1c818c4b102ba4084a6f6c28466fcdb5bd843029b8b1e63e950f85"), looks := false }, kinds := [], alts := [], laidByText := true, laidKinds := [.data], laidTests := true, laidLooks := .later }
def MarchesTurnedCardSaid : Prop := Claim7.holds Tryd.pinned (.plain (OpenSpec.ofChange marchesTurnedSpec)) marchesTurnedCard

/-- THE TIED CARD OF 'probecardlaw39.MarchrunsRun'. -/
def marchrunsRunCard : Claim7 := { stood := { row := marchrunsRunRow, standIns := [], harness := (true, "9eedd2fb0f1c818c4b102ba4084a6f6c28466fcdb5bd843029b8b1e63e950f85"), looks := false }, kinds := [], alts := [], laidByText := true, laidKinds := [.data], laidTests := true, laidLooks := .later }
def MarchrunsRunCardSaid : Prop := Claim7.holds Tryd.pinned (.plain (OpenSpec.ofChange marchrunsRunSpec)) marchrunsRunCard

/-- THE TIED CARD OF 'probecardlaw39.MarchrunsBest'. -/
def marchrunsBestCard : Claim7 := { stood := { row := marchrunsBestRow, standIns := [], harness := (true, "9eedd2fb0f1c818c4b102ba4084a6f6c28466fcdb5bd843029b8b1e63e950f85"), looks := false }, kinds := [], alts := [], laidByText := true, laidKinds := [.data], laidTests := true, laidLooks := .later }
def MarchrunsBestCardSaid : Prop := Claim7.holds Tryd.pinned (.plain (OpenSpec.ofChange marchrunsBestSpec)) marchrunsBestCard

/-- THE TIED CARD OF 'probecardlaw39.MarchrunsKnown'. -/
def marchrunsKnownCard : Claim7 := { stood := { row := marchrunsKnownRow, standIns := [], harness := (true, "9eedd2fb0f1c818c4b102ba4084a6f6c28466fcdb5bd843029b8b1e63e950f85"), looks := false }, kinds := [], alts := [], laidByText := true, laidKinds := [.data], laidTests := true, laidLooks := .later }
def MarchrunsKnownCardSaid : Prop := Claim7.holds Tryd.pinned (.plain (OpenSpec.ofChange marchrunsKnownSpec)) marchrunsKnownCard

/-- THE TIED CARD OF 'probecardlaw39.MarchrunsDetects'. -/
def marchrunsDetectsCard : Claim7 := { stood := { row := marchrunsDetectsRow, standIns := [], harness := (true, "9eedd2fb0f1c818c4b102ba4084a6f6c28466fcdb5bd843029b8b1e63e950f85"), looks := false }, kinds := [], alts := [], laidByText := true, laidKinds := [.data], laidTests := true, laidLooks := .later }
def MarchrunsDetectsCardSaid : Prop := Claim7.holds Tryd.pinned (.plain (OpenSpec.ofChange marchrunsDetectsSpec)) marchrunsDetectsCard

/-- THE TIED CARD OF 'probecardlaw39.MarchrunsTable'. -/
def marchrunsTableCard : Claim7 := { stood := { row := marchrunsTableRow, standIns := [], harness := (true, "9eedd2fb0f1c818c4b102ba4084a6f6c28466fcdb5bd843029b8b1e63e950f85"), looks := false }, kinds := [], alts := [], laidByText := true, laidKinds := [.data], laidTests := true, laidLooks := .later }
def MarchrunsTableCardSaid : Prop := Claim7.holds Tryd.pinned (.plain (OpenSpec.ofChange marchrunsTableSpec)) marchrunsTableCard

/-- THE TIED CARD OF 'probecardlaw39.MarchrunsLonger'. -/
def marchrunsLongerCard : Claim7 := { stood := { row := marchrunsLongerRow, standIns := [], harness := (true, "9eedd2fb0f1c818c4b102ba4084a6f6c28466fcdb5bd843029b8b1e63e950f85"), looks := false }, kinds := [], alts := [], laidByText := true, laidKinds := [.data], laidTests := true, laidLooks := .later }
def MarchrunsLongerCardSaid : Prop := Claim7.holds Tryd.pinned (.plain (OpenSpec.ofChange marchrunsLongerSpec)) marchrunsLongerCard

/-- THE TIED CARD OF 'probecardlaw39.MarchrunsReverse'. -/
def marchrunsReverseCard : Claim7 := { stood := { row := marchrunsReverseRow, standIns := [], harness := (true, "9eedd2fb0f1c818c4b102ba4084a6f6c28466fcdb5bd843029b8b1e63e950f85"), looks := false }, kinds := [], alts := [], laidByText := true, laidKinds := [.data], laidTests := true, laidLooks := .later }
def MarchrunsReverseCardSaid : Prop := Claim7.holds Tryd.pinned (.plain (OpenSpec.ofChange marchrunsReverseSpec)) marchrunsReverseCard

/-- THE TIED CARD OF 'probecardlaw39.MarchrunsInverse'. -/
def marchrunsInverseCard : Claim7 := { stood := { row := marchrunsInverseRow, standIns := [], harness := (true, "9eedd2fb0f1c818c4b102ba4084a6f6c28466fcdb5bd843029b8b1e63e950f85"), looks := false }, kinds := [], alts := [], laidByText := true, laidKinds := [.data], laidTests := true, laidLooks := .later }
def MarchrunsInverseCardSaid : Prop := Claim7.holds Tryd.pinned (.plain (OpenSpec.ofChange marchrunsInverseSpec)) marchrunsInverseCard

/-- THE SECOND FORM's CARD OF 'probecardlaw37.MarchesRefused'. -/
def marchesRefusedUptoCard : Claim7 := { stood := { row := marchesRefusedUptoRow, standIns := [], harness := (true, "9eedd2fb0f1c818c4b102ba4084a6f6c28466fcdb5bd843029b8b1e63e950f85"), looks := false }, kinds := [], alts := [], laidByText := true, laidKinds := [.data], laidTests := true, laidLooks := .later }
def MarchesRefusedUptoCardSaid : Prop := Claim7.holds Tryd.pinned (.plain (OpenSpec.upto marchesRefusedSpec)) marchesRefusedUptoCard

/-- THE SECOND FORM's CARD OF 'probecardlaw37.MarchesNamed'. -/
def marchesNamedUptoCard : Claim7 := { stood := { row := marchesNamedUptoRow, standIns := [], harness := (true, "9eedd2fb0f1c818c4b102ba4084a6f6c28466fcdb5bd843029b8b1e63e950f85"), looks := false }, kinds := [], alts := [], laidByText := true, laidKinds := [.data], laidTests := true, laidLooks := .later }
def MarchesNamedUptoCardSaid : Prop := Claim7.holds Tryd.pinned (.plain (OpenSpec.upto marchesNamedSpec)) marchesNamedUptoCard

/-- THE SECOND FORM's CARD OF 'probecardlaw37.MarchesCheck'. -/
def marchesCheckUptoCard : Claim7 := { stood := { row := marchesCheckUptoRow, standIns := [], harness := (true, "9eedd2fb0f1c818c4b102ba4084a6f6c28466fcdb5bd843029b8b1e63e950f85"), looks := false }, kinds := [], alts := [], laidByText := true, laidKinds := [.data], laidTests := true, laidLooks := .later }
def MarchesCheckUptoCardSaid : Prop := Claim7.holds Tryd.pinned (.plain (OpenSpec.upto marchesCheckSpec)) marchesCheckUptoCard

/-- THE SECOND FORM's CARD OF 'probecardlaw37.MarchesBack'. -/
def marchesBackUptoCard : Claim7 := { stood := { row := marchesBackUptoRow, standIns := [], harness := (true, "9eedd2fb0f1c818c4b102ba4084a6f6c28466fcdb5bd843029b8b1e63e950f85"), looks := false }, kinds := [], alts := [], laidByText := true, laidKinds := [.data], laidTests := true, laidLooks := .later }
def MarchesBackUptoCardSaid : Prop := Claim7.holds Tryd.pinned (.plain (OpenSpec.upto marchesBackSpec)) marchesBackUptoCard

/-- THE SECOND FORM's CARD OF 'probecardlaw37.MarchesTurned'. -/
def marchesTurnedUptoCard : Claim7 := { stood := { row := marchesTurnedUptoRow, standIns := [], harness := (true, "9eedd2fb0f1c818c4b102ba4084a6f6c28466fcdb5bd843029b8b1e63e950f85"), looks := false }, kinds := [], alts := [], laidByText := true, laidKinds := [.data], laidTests := true, laidLooks := .later }
def MarchesTurnedUptoCardSaid : Prop := Claim7.holds Tryd.pinned (.plain (OpenSpec.upto marchesTurnedSpec)) marchesTurnedUptoCard

/-- THE SECOND FORM's CARD OF 'probecardlaw39.MarchrunsRun'. -/
def marchrunsRunUptoCard : Claim7 := { stood := { row := marchrunsRunUptoRow, standIns := [], harness := (true, "9eedd2fb0f1c818c4b102ba4084a6f6c28466fcdb5bd843029b8b1e63e950f85"), looks := false }, kinds := [], alts := [], laidByText := true, laidKinds := [.data], laidTests := true, laidLooks := .later }
def MarchrunsRunUptoCardSaid : Prop := Claim7.holds Tryd.pinned (.plain (OpenSpec.upto marchrunsRunSpec)) marchrunsRunUptoCard

/-- THE SECOND FORM's CARD OF 'probecardlaw39.MarchrunsBest'. -/
def marchrunsBestUptoCard : Claim7 := { stood := { row := marchrunsBestUptoRow, standIns := [], harness := (true, "9eedd2fb0f1c818c4b102ba4084a6f6c28466fcdb5bd843029b8b1e63e950f85"), looks := false }, kinds := [], alts := [], laidByText := true, laidKinds := [.data], laidTests := true, laidLooks := .later }
def MarchrunsBestUptoCardSaid : Prop := Claim7.holds Tryd.pinned (.plain (OpenSpec.upto marchrunsBestSpec)) marchrunsBestUptoCard

/-- THE SECOND FORM's CARD OF 'probecardlaw39.MarchrunsKnown'. -/
def marchrunsKnownUptoCard : Claim7 := { stood := { row := marchrunsKnownUptoRow, standIns := [], harness := (true, "9eedd2fb0f1c818c4b102ba4084a6f6c28466fcdb5bd843029b8b1e63e950f85"), looks := false }, kinds := [], alts := [], laidByText := true, laidKinds := [.data], laidTests := true, laidLooks := .later }
def MarchrunsKnownUptoCardSaid : Prop := Claim7.holds Tryd.pinned (.plain (OpenSpec.upto marchrunsKnownSpec)) marchrunsKnownUptoCard

/-- THE SECOND FORM's CARD OF 'probecardlaw39.MarchrunsDetects'. -/
def marchrunsDetectsUptoCard : Claim7 := { stood := { row := marchrunsDetectsUptoRow, standIns := [], harness := (true, "9eedd2fb0f1c818c4b102ba4084a6f6c28466fcdb5bd843029b8b1e63e950f85"), looks := false }, kinds := [], alts := [], laidByText := true, laidKinds := [.data], laidTests := true, laidLooks := .later }
def MarchrunsDetectsUptoCardSaid : Prop := Claim7.holds Tryd.pinned (.plain (OpenSpec.upto marchrunsDetectsSpec)) marchrunsDetectsUptoCard

/-- THE SECOND FORM's CARD OF 'probecardlaw39.MarchrunsTable'. -/
def marchrunsTableUptoCard : Claim7 := { stood := { row := marchrunsTableUptoRow, standIns := [], harness := (true, "9eedd2fb0f1c818c4b102ba4084a6f6c28466fcdb5bd843029b8b1e63e950f85"), looks := false }, kinds := [], alts := [], laidByText := true, laidKinds := [.data], laidTests := true, laidLooks := .later }
def MarchrunsTableUptoCardSaid : Prop := Claim7.holds Tryd.pinned (.plain (OpenSpec.upto marchrunsTableSpec)) marchrunsTableUptoCard

/-- THE SECOND FORM's CARD OF 'probecardlaw39.MarchrunsLonger'. -/
def marchrunsLongerUptoCard : Claim7 := { stood := { row := marchrunsLongerUptoRow, standIns := [], harness := (true, "9eedd2fb0f1c818c4b102ba4084a6f6c28466fcdb5bd843029b8b1e63e950f85"), looks := false }, kinds := [], alts := [], laidByText := true, laidKinds := [.data], laidTests := true, laidLooks := .later }
def MarchrunsLongerUptoCardSaid : Prop := Claim7.holds Tryd.pinned (.plain (OpenSpec.upto marchrunsLongerSpec)) marchrunsLongerUptoCard

/-- THE SECOND FORM's CARD OF 'probecardlaw39.MarchrunsReverse'. -/
def marchrunsReverseUptoCard : Claim7 := { stood := { row := marchrunsReverseUptoRow, standIns := [], harness := (true, "9eedd2fb0f1c818c4b102ba4084a6f6c28466fcdb5bd843029b8b1e63e950f85"), looks := false }, kinds := [], alts := [], laidByText := true, laidKinds := [.data], laidTests := true, laidLooks := .later }
def MarchrunsReverseUptoCardSaid : Prop := Claim7.holds Tryd.pinned (.plain (OpenSpec.upto marchrunsReverseSpec)) marchrunsReverseUptoCard

/-- THE SECOND FORM's CARD OF 'probecardlaw39.MarchrunsInverse'. -/
def marchrunsInverseUptoCard : Claim7 := { stood := { row := marchrunsInverseUptoRow, standIns := [], harness := (true, "9eedd2fb0f1c818c4b102ba4084a6f6c28466fcdb5bd843029b8b1e63e950f85"), looks := false }, kinds := [], alts := [], laidByText := true, laidKinds := [.data], laidTests := true, laidLooks := .later }
def MarchrunsInverseUptoCardSaid : Prop := Claim7.holds Tryd.pinned (.plain (OpenSpec.upto marchrunsInverseSpec)) marchrunsInverseUptoCard
end Rows
end Go.Proofs.YtcnlccpihknehaaDoor
