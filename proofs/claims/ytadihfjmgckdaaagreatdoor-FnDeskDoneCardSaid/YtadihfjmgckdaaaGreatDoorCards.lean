/-
  DERIVED. GIVEN WITH THE SEED: THE CARDS: each row of YtadihfjmgckdaaaGreatDoorRows.lean that lists a variable, with what it lists TIED to the program's text (the seventh form; the later family's looks); each row that meets fmt, with fmt's text TOLD by the authors' own Lean function (tested against real Go, not proved from fmt's source: count such statements apart). THE CARD IS WHAT COUNTS. Prove the row's statement (the work); the ties are given (YtadihfjmgckdaaaGreatDoorTie.lean); close each card by the builder's one call (the guide's Derived/Test/ToyasCard.lean, 'card_holds'). Laid BY PROGRAM, IN A SANDBOX (cutbox-door.mjs). By AI agents, Wed Nov 11 2026. No macro, syntax, notation, axiom, sorry.
-/
import Derived.Test.YtadihfjmgckdaaaGreatDoorRows
import GoSem.ClaimSeven
namespace Go.Proofs.YtadihfjmgckdaaaGreatDoor
namespace Rows

/-- THE TIED CARD OF 'laws.FnSimple'. -/
def fnSimpleCard : Claim7 := { stood := { row := fnSimpleRow, standIns := [], harness := (true, "b8004459a568141217adc1e24f8ae3c34c040d45cb989e317c36e3e1a8b6781d"), looks := true }, kinds := [], alts := [], laidByText := true, laidKinds := [.mapped, .data], laidTests := true, laidLooks := .later }
def FnSimpleCardSaid : Prop := Claim7.holds Tryz.pinned (.plain (OpenSpec.ofChange fnSimpleSpec)) fnSimpleCard

/-- THE TIED CARD OF 'laws.FnDeskRun'. -/
def fnDeskRunCard : Claim7 := { stood := { row := fnDeskRunRow, standIns := [], harness := (true, "b8004459a568141217adc1e24f8ae3c34c040d45cb989e317c36e3e1a8b6781d"), looks := true }, kinds := [], alts := [], laidByText := true, laidKinds := [.mapped, .data], laidTests := true, laidLooks := .later }
def FnDeskRunCardSaid : Prop := Claim7.holds Tryz.pinned (.plain (OpenSpec.ofChange fnDeskRunSpec)) fnDeskRunCard

/-- THE TIED CARD OF 'laws.FnDeskValid'. -/
def fnDeskValidCard : Claim7 := { stood := { row := fnDeskValidRow, standIns := [], harness := (true, "b8004459a568141217adc1e24f8ae3c34c040d45cb989e317c36e3e1a8b6781d"), looks := true }, kinds := [], alts := [], laidByText := true, laidKinds := [.mapped, .data], laidTests := true, laidLooks := .later }
def FnDeskValidCardSaid : Prop := Claim7.holds Tryz.pinned (.plain (OpenSpec.ofChange fnDeskValidSpec)) fnDeskValidCard

/-- THE TIED CARD OF 'laws.FnDeskDone'. -/
def fnDeskDoneCard : Claim7 := { stood := { row := fnDeskDoneRow, standIns := [], harness := (true, "b8004459a568141217adc1e24f8ae3c34c040d45cb989e317c36e3e1a8b6781d"), looks := true }, kinds := [], alts := [], laidByText := true, laidKinds := [.mapped, .data], laidTests := true, laidLooks := .later }
def FnDeskDoneCardSaid : Prop := Claim7.holds Tryz.pinned (.plain (OpenSpec.ofChange fnDeskDoneSpec)) fnDeskDoneCard

/-- THE TIED CARD OF 'laws.FnProofOk'. -/
def fnProofOkCard : Claim7 := { stood := { row := fnProofOkRow, standIns := [], harness := (true, "b8004459a568141217adc1e24f8ae3c34c040d45cb989e317c36e3e1a8b6781d"), looks := true }, kinds := [], alts := [], laidByText := true, laidKinds := [.mapped, .data], laidTests := true, laidLooks := .later }
def FnProofOkCardSaid : Prop := Claim7.holds Tryz.pinned (.plain (OpenSpec.ofChange fnProofOkSpec)) fnProofOkCard

/-- THE TIED CARD OF 'laws.FnMoveDo'. -/
def fnMoveDoCard : Claim7 := { stood := { row := fnMoveDoRow, standIns := [], harness := (true, "b8004459a568141217adc1e24f8ae3c34c040d45cb989e317c36e3e1a8b6781d"), looks := true }, kinds := [], alts := [], laidByText := true, laidKinds := [.handle, .mapped, .data], laidTests := true, laidLooks := .later }
def FnMoveDoCardSaid : Prop := Claim7.holds Tryz.pinned (.plain (OpenSpec.ofChange fnMoveDoSpec)) fnMoveDoCard

/-- THE SECOND FORM's CARD OF 'laws.FnSimple'. -/
def fnSimpleUptoCard : Claim7 := { stood := { row := fnSimpleUptoRow, standIns := [], harness := (true, "b8004459a568141217adc1e24f8ae3c34c040d45cb989e317c36e3e1a8b6781d"), looks := true }, kinds := [], alts := [], laidByText := true, laidKinds := [.mapped, .data], laidTests := true, laidLooks := .later }
def FnSimpleUptoCardSaid : Prop := Claim7.holds Tryz.pinned (.plain (OpenSpec.upto fnSimpleSpec)) fnSimpleUptoCard

/-- THE SECOND FORM's CARD OF 'laws.FnDeskRun'. -/
def fnDeskRunUptoCard : Claim7 := { stood := { row := fnDeskRunUptoRow, standIns := [], harness := (true, "b8004459a568141217adc1e24f8ae3c34c040d45cb989e317c36e3e1a8b6781d"), looks := true }, kinds := [], alts := [], laidByText := true, laidKinds := [.mapped, .data], laidTests := true, laidLooks := .later }
def FnDeskRunUptoCardSaid : Prop := Claim7.holds Tryz.pinned (.plain (OpenSpec.upto fnDeskRunSpec)) fnDeskRunUptoCard

/-- THE SECOND FORM's CARD OF 'laws.FnDeskValid'. -/
def fnDeskValidUptoCard : Claim7 := { stood := { row := fnDeskValidUptoRow, standIns := [], harness := (true, "b8004459a568141217adc1e24f8ae3c34c040d45cb989e317c36e3e1a8b6781d"), looks := true }, kinds := [], alts := [], laidByText := true, laidKinds := [.mapped, .data], laidTests := true, laidLooks := .later }
def FnDeskValidUptoCardSaid : Prop := Claim7.holds Tryz.pinned (.plain (OpenSpec.upto fnDeskValidSpec)) fnDeskValidUptoCard

/-- THE SECOND FORM's CARD OF 'laws.FnDeskDone'. -/
def fnDeskDoneUptoCard : Claim7 := { stood := { row := fnDeskDoneUptoRow, standIns := [], harness := (true, "b8004459a568141217adc1e24f8ae3c34c040d45cb989e317c36e3e1a8b6781d"), looks := true }, kinds := [], alts := [], laidByText := true, laidKinds := [.mapped, .data], laidTests := true, laidLooks := .later }
def FnDeskDoneUptoCardSaid : Prop := Claim7.holds Tryz.pinned (.plain (OpenSpec.upto fnDeskDoneSpec)) fnDeskDoneUptoCard

/-- THE SECOND FORM's CARD OF 'laws.FnProofOk'. -/
def fnProofOkUptoCard : Claim7 := { stood := { row := fnProofOkUptoRow, standIns := [], harness := (true, "b8004459a568141217adc1e24f8ae3c34c040d45cb989e317c36e3e1a8b6781d"), looks := true }, kinds := [], alts := [], laidByText := true, laidKinds := [.mapped, .data], laidTests := true, laidLooks := .later }
def FnProofOkUptoCardSaid : Prop := Claim7.holds Tryz.pinned (.plain (OpenSpec.upto fnProofOkSpec)) fnProofOkUptoCard

/-- THE SECOND FORM's CARD OF 'laws.FnMoveDo'. -/
def fnMoveDoUptoCard : Claim7 := { stood := { row := fnMoveDoUptoRow, standIns := [], harness := (true, "b8004459a568141217adc1e24f8ae3c34c040d45cb989e317c36e3e1a8b6781d"), looks := true }, kinds := [], alts := [], laidByText := true, laidKinds := [.handle, .mapped, .data], laidTests := true, laidLooks := .later }
def FnMoveDoUptoCardSaid : Prop := Claim7.holds Tryz.pinned (.plain (OpenSpec.upto fnMoveDoSpec)) fnMoveDoUptoCard
end Rows
end Go.Proofs.YtadihfjmgckdaaaGreatDoor
