/-
  DERIVED. GIVEN WITH THE SEED: THE CARDS: each row of YtplofpdjhelabaaGreatDoorRows.lean that lists a variable, with what it lists TIED to the program's text (the seventh form; the later family's looks); each row that meets fmt, with fmt's text TOLD by the authors' own Lean function (tested against real Go, not proved from fmt's source: count such statements apart). THE CARD IS WHAT COUNTS. Prove the row's statement (the work); the ties are given (YtplofpdjhelabaaGreatDoorTie.lean); close each card by the builder's one call (the guide's Derived/Test/ToyasCard.lean, 'card_holds'). Laid BY PROGRAM, IN A SANDBOX (cutbox-door.mjs). By AI agents, Wed Nov 11 2026. No macro, syntax, notation, axiom, sorry.
-/
import Derived.Test.YtplofpdjhelabaaGreatDoorRows
import GoSem.ClaimSeven
namespace Go.Proofs.YtplofpdjhelabaaGreatDoor
namespace Rows

/-- THE TIED CARD OF 'laws.FnProofOk'. -/
def fnProofOkCard : Claim7 := { stood := { row := fnProofOkRow, standIns := [], harness := (true, "d1150c1f451f83ff032cf65a3311043eb7bc5483caf6394868a8fc8d1a733789"), looks := true }, kinds := [], alts := [], laidByText := true, laidKinds := [.mapped, .data], laidTests := true, laidLooks := .later }
def FnProofOkCardSaid : Prop := Claim7.holds Tryz.pinned (.plain (OpenSpec.ofChange fnProofOkSpec)) fnProofOkCard

/-- THE TIED CARD OF 'laws.FnMoveDo'. -/
def fnMoveDoCard : Claim7 := { stood := { row := fnMoveDoRow, standIns := [], harness := (true, "d1150c1f451f83ff032cf65a3311043eb7bc5483caf6394868a8fc8d1a733789"), looks := true }, kinds := [], alts := [], laidByText := true, laidKinds := [.handle, .mapped, .data], laidTests := true, laidLooks := .later }
def FnMoveDoCardSaid : Prop := Claim7.holds Tryz.pinned (.plain (OpenSpec.ofChange fnMoveDoSpec)) fnMoveDoCard

/-- THE SECOND FORM's CARD OF 'laws.FnProofOk'. -/
def fnProofOkUptoCard : Claim7 := { stood := { row := fnProofOkUptoRow, standIns := [], harness := (true, "d1150c1f451f83ff032cf65a3311043eb7bc5483caf6394868a8fc8d1a733789"), looks := true }, kinds := [], alts := [], laidByText := true, laidKinds := [.mapped, .data], laidTests := true, laidLooks := .later }
def FnProofOkUptoCardSaid : Prop := Claim7.holds Tryz.pinned (.plain (OpenSpec.upto fnProofOkSpec)) fnProofOkUptoCard

/-- THE SECOND FORM's CARD OF 'laws.FnMoveDo'. -/
def fnMoveDoUptoCard : Claim7 := { stood := { row := fnMoveDoUptoRow, standIns := [], harness := (true, "d1150c1f451f83ff032cf65a3311043eb7bc5483caf6394868a8fc8d1a733789"), looks := true }, kinds := [], alts := [], laidByText := true, laidKinds := [.handle, .mapped, .data], laidTests := true, laidLooks := .later }
def FnMoveDoUptoCardSaid : Prop := Claim7.holds Tryz.pinned (.plain (OpenSpec.upto fnMoveDoSpec)) fnMoveDoUptoCard
end Rows
end Go.Proofs.YtplofpdjhelabaaGreatDoor
