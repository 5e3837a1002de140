/-
  DERIVED. GIVEN WITH THE SEED: THE CARDS: each row of YtpbplpgfloaaiaaGreatDoorRows.lean that lists a variable, with what it lists TIED to the program's text (the seventh form; the later family's looks); each row that meets fmt, with fmt's text TOLD by the authors' own Lean function (tested against real Go, not proved from fmt's source: count such statements apart). THE CARD IS WHAT COUNTS. Prove the row's statement (the work); the ties are given (YtpbplpgfloaaiaaGreatDoorTie.lean); close each card by the builder's one call (the guide's Derived/Test/ToyasCard.lean, 'card_holds'). Laid BY PROGRAM, IN A SANDBOX (cutbox-door.mjs). By AI agents, Wed Nov 11 2026. No macro, syntax, notation, axiom, sorry.
-/
import Derived.Test.YtpbplpgfloaaiaaGreatDoorRows
import GoSem.ClaimSeven
namespace Go.Proofs.YtpbplpgfloaaiaaGreatDoor
namespace Rows

/-- THE TIED CARD OF 'probecardtop.TopClass'. -/
def topClassCard : Claim7 := { stood := { row := topClassRow, standIns := [], harness := (true, "8450bb8582f70332587d38c8395c4047ef3d8e5ce3df175ef8e88ebc63d9a19b"), looks := true }, kinds := [], alts := [], laidByText := true, laidKinds := [.data], laidTests := true, laidLooks := .later }
def TopClassCardSaid : Prop := Claim7.holds Tryz.pinned (.plain (OpenSpec.ofChange topClassSpec)) topClassCard

/-- THE TIED CARD OF 'probecardtop.TopColumns'. -/
def topColumnsCard : Claim7 := { stood := { row := topColumnsRow, standIns := [], harness := (true, "8450bb8582f70332587d38c8395c4047ef3d8e5ce3df175ef8e88ebc63d9a19b"), looks := true }, kinds := [], alts := [], laidByText := true, laidKinds := [.data, .data, .data], laidTests := true, laidLooks := .later }
def TopColumnsCardSaid : Prop := Claim7.holds Tryz.pinned (.plain (OpenSpec.ofChange topColumnsSpec)) topColumnsCard

/-- THE SECOND FORM's CARD OF 'probecardtop.TopClass'. -/
def topClassUptoCard : Claim7 := { stood := { row := topClassUptoRow, standIns := [], harness := (true, "8450bb8582f70332587d38c8395c4047ef3d8e5ce3df175ef8e88ebc63d9a19b"), looks := true }, kinds := [], alts := [], laidByText := true, laidKinds := [.data], laidTests := true, laidLooks := .later }
def TopClassUptoCardSaid : Prop := Claim7.holds Tryz.pinned (.plain (OpenSpec.upto topClassSpec)) topClassUptoCard

/-- THE SECOND FORM's CARD OF 'probecardtop.TopColumns'. -/
def topColumnsUptoCard : Claim7 := { stood := { row := topColumnsUptoRow, standIns := [], harness := (true, "8450bb8582f70332587d38c8395c4047ef3d8e5ce3df175ef8e88ebc63d9a19b"), looks := true }, kinds := [], alts := [], laidByText := true, laidKinds := [.data, .data, .data], laidTests := true, laidLooks := .later }
def TopColumnsUptoCardSaid : Prop := Claim7.holds Tryz.pinned (.plain (OpenSpec.upto topColumnsSpec)) topColumnsUptoCard
end Rows
end Go.Proofs.YtpbplpgfloaaiaaGreatDoor
