/-
  DERIVED. GIVEN WITH THE SEED: THE CARDS: each row of YtogkpjhkpgdbkaaDoorRows.lean that lists a variable, with what it lists TIED to the program's text (the seventh form; the later family's looks); each row that meets fmt, with fmt's text TOLD by the authors' own Lean function (tested against real Go, not proved from fmt's source: count such statements apart). THE CARD IS WHAT COUNTS. Prove the row's statement (the work); the ties are given (YtogkpjhkpgdbkaaDoorTie.lean); close each card by the builder's one call (the guide's Derived/Test/ToyasCard.lean, 'card_holds'). Laid BY PROGRAM, IN A SANDBOX (cutbox-door.mjs). By AI agents, Wed Nov 11 2026. No macro, syntax, notation, axiom, sorry.
-/
import Derived.Test.YtogkpjhkpgdbkaaDoorRows
import GoSem.ClaimSeven
namespace Go.Proofs.YtogkpjhkpgdbkaaDoor
namespace Rows

/-- THE TIED CARD OF 'probecardtop.TopStore'. -/
def topStoreCard : Claim7 := { stood := { row := topStoreRow, standIns := [], harness := (true, "f9c4c7dacb597d8c83dcf9733cdc601ec40b69e8b8772b3191ece5665b96827b"), looks := false }, kinds := [], alts := [], laidByText := true, laidKinds := [.data], laidTests := true, laidLooks := .later }
def TopStoreCardSaid : Prop := Claim7.holds Tryd.pinned (.plain (OpenSpec.ofChange topStoreSpec)) topStoreCard

/-- THE SECOND FORM's CARD OF 'probecardtop.TopStore'. -/
def topStoreUptoCard : Claim7 := { stood := { row := topStoreUptoRow, standIns := [], harness := (true, "f9c4c7dacb597d8c83dcf9733cdc601ec40b69e8b8772b3191ece5665b96827b"), looks := false }, kinds := [], alts := [], laidByText := true, laidKinds := [.data], laidTests := true, laidLooks := .later }
def TopStoreUptoCardSaid : Prop := Claim7.holds Tryd.pinned (.plain (OpenSpec.upto topStoreSpec)) topStoreUptoCard
end Rows
end Go.Proofs.YtogkpjhkpgdbkaaDoor
