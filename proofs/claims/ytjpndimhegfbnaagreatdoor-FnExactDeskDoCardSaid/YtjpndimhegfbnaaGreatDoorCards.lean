/-
  DERIVED. GIVEN WITH THE SEED: THE CARDS: each row of YtjpndimhegfbnaaGreatDoorRows.lean that lists a variable, with what it lists TIED to the program's text (the seventh form; the later family's looks); each row that meets fmt, with fmt's text TOLD by the authors' own Lean function (tested against real Go, not proved from fmt's source: count such statements apart). THE CARD IS WHAT COUNTS. Prove the row's statement (the work); the ties are given (YtjpndimhegfbnaaGreatDoorTie.lean); close each card by the builder's one call (the guide's Derived/Test/ToyasCard.lean, 'card_holds'). Laid BY PROGRAM, IN A SANDBOX (cutbox-door.mjs). By AI agents, Wed Nov 11 2026. No macro, syntax, notation, axiom, sorry.
-/
import Derived.Test.YtjpndimhegfbnaaGreatDoorRows
import GoSem.ClaimSeven
namespace Go.Proofs.YtjpndimhegfbnaaGreatDoor
namespace Rows

/-- THE TIED CARD OF 'laws.FnExactRuleOf'. -/
def fnExactRuleOfCard : Claim7 := { stood := { row := fnExactRuleOfRow, standIns := [], harness := (true, "eb146e2eff2e8c8a0e395c27a6b61dbb93a0614b62dae82289e078b729310721"), looks := true }, kinds := [], alts := [], laidByText := true, laidKinds := [.mapped, .data], laidTests := true, laidLooks := .later }
def FnExactRuleOfCardSaid : Prop := Claim7.holds Tryz.pinned (.plain (OpenSpec.ofChange fnExactRuleOfSpec)) fnExactRuleOfCard

/-- THE TIED CARD OF 'laws.FnDeskNew'. -/
def fnDeskNewCard : Claim7 := { stood := { row := fnDeskNewRow, standIns := [], harness := (true, "eb146e2eff2e8c8a0e395c27a6b61dbb93a0614b62dae82289e078b729310721"), looks := true }, kinds := [], alts := [], laidByText := true, laidKinds := [.mapped, .data], laidTests := true, laidLooks := .later }
def FnDeskNewCardSaid : Prop := Claim7.holds Tryz.pinned (.plain (OpenSpec.ofChange fnDeskNewSpec)) fnDeskNewCard

/-- THE TIED CARD OF 'laws.FnExactMovesAt'. -/
def fnExactMovesAtCard : Claim7 := { stood := { row := fnExactMovesAtRow, standIns := [], harness := (true, "eb146e2eff2e8c8a0e395c27a6b61dbb93a0614b62dae82289e078b729310721"), looks := true }, kinds := [], alts := [], laidByText := true, laidKinds := [.mapped, .data], laidTests := true, laidLooks := .later }
def FnExactMovesAtCardSaid : Prop := Claim7.holds Tryz.pinned (.plain (OpenSpec.ofChange fnExactMovesAtSpec)) fnExactMovesAtCard

/-- THE TIED CARD OF 'laws.FnExactProofOk'. -/
def fnExactProofOkCard : Claim7 := { stood := { row := fnExactProofOkRow, standIns := [], harness := (true, "eb146e2eff2e8c8a0e395c27a6b61dbb93a0614b62dae82289e078b729310721"), looks := true }, kinds := [], alts := [], laidByText := true, laidKinds := [.mapped, .data], laidTests := true, laidLooks := .later }
def FnExactProofOkCardSaid : Prop := Claim7.holds Tryz.pinned (.plain (OpenSpec.ofChange fnExactProofOkSpec)) fnExactProofOkCard

/-- THE TIED CARD OF 'laws.FnExactSimple'. -/
def fnExactSimpleCard : Claim7 := { stood := { row := fnExactSimpleRow, standIns := [], harness := (true, "eb146e2eff2e8c8a0e395c27a6b61dbb93a0614b62dae82289e078b729310721"), looks := true }, kinds := [], alts := [], laidByText := true, laidKinds := [.mapped, .data], laidTests := true, laidLooks := .later }
def FnExactSimpleCardSaid : Prop := Claim7.holds Tryz.pinned (.plain (OpenSpec.ofChange fnExactSimpleSpec)) fnExactSimpleCard

/-- THE TIED CARD OF 'laws.FnExactProofRun'. -/
def fnExactProofRunCard : Claim7 := { stood := { row := fnExactProofRunRow, standIns := [], harness := (true, "eb146e2eff2e8c8a0e395c27a6b61dbb93a0614b62dae82289e078b729310721"), looks := true }, kinds := [], alts := [], laidByText := true, laidKinds := [.mapped, .data], laidTests := true, laidLooks := .later }
def FnExactProofRunCardSaid : Prop := Claim7.holds Tryz.pinned (.plain (OpenSpec.ofChange fnExactProofRunSpec)) fnExactProofRunCard

/-- THE TIED CARD OF 'laws.FnExactSimpleBy'. -/
def fnExactSimpleByCard : Claim7 := { stood := { row := fnExactSimpleByRow, standIns := [], harness := (true, "eb146e2eff2e8c8a0e395c27a6b61dbb93a0614b62dae82289e078b729310721"), looks := true }, kinds := [], alts := [], laidByText := true, laidKinds := [.mapped, .data], laidTests := true, laidLooks := .later }
def FnExactSimpleByCardSaid : Prop := Claim7.holds Tryz.pinned (.plain (OpenSpec.ofChange fnExactSimpleBySpec)) fnExactSimpleByCard

/-- THE TIED CARD OF 'laws.FnExactDeskValid'. -/
def fnExactDeskValidCard : Claim7 := { stood := { row := fnExactDeskValidRow, standIns := [], harness := (true, "eb146e2eff2e8c8a0e395c27a6b61dbb93a0614b62dae82289e078b729310721"), looks := true }, kinds := [], alts := [], laidByText := true, laidKinds := [.mapped, .data], laidTests := true, laidLooks := .later }
def FnExactDeskValidCardSaid : Prop := Claim7.holds Tryz.pinned (.plain (OpenSpec.ofChange fnExactDeskValidSpec)) fnExactDeskValidCard

/-- THE TIED CARD OF 'laws.FnExactDeskDone'. -/
def fnExactDeskDoneCard : Claim7 := { stood := { row := fnExactDeskDoneRow, standIns := [], harness := (true, "eb146e2eff2e8c8a0e395c27a6b61dbb93a0614b62dae82289e078b729310721"), looks := true }, kinds := [], alts := [], laidByText := true, laidKinds := [.mapped, .data], laidTests := true, laidLooks := .later }
def FnExactDeskDoneCardSaid : Prop := Claim7.holds Tryz.pinned (.plain (OpenSpec.ofChange fnExactDeskDoneSpec)) fnExactDeskDoneCard

/-- THE TIED CARD OF 'laws.FnExactMoveDo'. -/
def fnExactMoveDoCard : Claim7 := { stood := { row := fnExactMoveDoRow, standIns := [], harness := (true, "eb146e2eff2e8c8a0e395c27a6b61dbb93a0614b62dae82289e078b729310721"), looks := true }, kinds := [], alts := [], laidByText := true, laidKinds := [.handle, .mapped, .data], laidTests := true, laidLooks := .later }
def FnExactMoveDoCardSaid : Prop := Claim7.holds Tryz.pinned (.plain (OpenSpec.ofChange fnExactMoveDoSpec)) fnExactMoveDoCard

/-- THE TIED CARD OF 'laws.FnExactDeskDo'. -/
def fnExactDeskDoCard : Claim7 := { stood := { row := fnExactDeskDoRow, standIns := [], harness := (true, "eb146e2eff2e8c8a0e395c27a6b61dbb93a0614b62dae82289e078b729310721"), looks := true }, kinds := [], alts := [], laidByText := true, laidKinds := [.mapped, .data], laidTests := true, laidLooks := .later }
def FnExactDeskDoCardSaid : Prop := Claim7.holds Tryz.pinned (.plain (OpenSpec.ofChange fnExactDeskDoSpec)) fnExactDeskDoCard

/-- THE TIED CARD OF 'laws.FnExactDeskRun'. -/
def fnExactDeskRunCard : Claim7 := { stood := { row := fnExactDeskRunRow, standIns := [], harness := (true, "eb146e2eff2e8c8a0e395c27a6b61dbb93a0614b62dae82289e078b729310721"), looks := true }, kinds := [], alts := [], laidByText := true, laidKinds := [.mapped, .data], laidTests := true, laidLooks := .later }
def FnExactDeskRunCardSaid : Prop := Claim7.holds Tryz.pinned (.plain (OpenSpec.ofChange fnExactDeskRunSpec)) fnExactDeskRunCard

/-- THE SECOND FORM's CARD OF 'laws.FnExactRuleOf'. -/
def fnExactRuleOfUptoCard : Claim7 := { stood := { row := fnExactRuleOfUptoRow, standIns := [], harness := (true, "eb146e2eff2e8c8a0e395c27a6b61dbb93a0614b62dae82289e078b729310721"), looks := true }, kinds := [], alts := [], laidByText := true, laidKinds := [.mapped, .data], laidTests := true, laidLooks := .later }
def FnExactRuleOfUptoCardSaid : Prop := Claim7.holds Tryz.pinned (.plain (OpenSpec.upto fnExactRuleOfSpec)) fnExactRuleOfUptoCard

/-- THE SECOND FORM's CARD OF 'laws.FnDeskNew'. -/
def fnDeskNewUptoCard : Claim7 := { stood := { row := fnDeskNewUptoRow, standIns := [], harness := (true, "eb146e2eff2e8c8a0e395c27a6b61dbb93a0614b62dae82289e078b729310721"), looks := true }, kinds := [], alts := [], laidByText := true, laidKinds := [.mapped, .data], laidTests := true, laidLooks := .later }
def FnDeskNewUptoCardSaid : Prop := Claim7.holds Tryz.pinned (.plain (OpenSpec.upto fnDeskNewSpec)) fnDeskNewUptoCard

/-- THE SECOND FORM's CARD OF 'laws.FnExactMovesAt'. -/
def fnExactMovesAtUptoCard : Claim7 := { stood := { row := fnExactMovesAtUptoRow, standIns := [], harness := (true, "eb146e2eff2e8c8a0e395c27a6b61dbb93a0614b62dae82289e078b729310721"), looks := true }, kinds := [], alts := [], laidByText := true, laidKinds := [.mapped, .data], laidTests := true, laidLooks := .later }
def FnExactMovesAtUptoCardSaid : Prop := Claim7.holds Tryz.pinned (.plain (OpenSpec.upto fnExactMovesAtSpec)) fnExactMovesAtUptoCard

/-- THE SECOND FORM's CARD OF 'laws.FnExactProofOk'. -/
def fnExactProofOkUptoCard : Claim7 := { stood := { row := fnExactProofOkUptoRow, standIns := [], harness := (true, "eb146e2eff2e8c8a0e395c27a6b61dbb93a0614b62dae82289e078b729310721"), looks := true }, kinds := [], alts := [], laidByText := true, laidKinds := [.mapped, .data], laidTests := true, laidLooks := .later }
def FnExactProofOkUptoCardSaid : Prop := Claim7.holds Tryz.pinned (.plain (OpenSpec.upto fnExactProofOkSpec)) fnExactProofOkUptoCard

/-- THE SECOND FORM's CARD OF 'laws.FnExactSimple'. -/
def fnExactSimpleUptoCard : Claim7 := { stood := { row := fnExactSimpleUptoRow, standIns := [], harness := (true, "eb146e2eff2e8c8a0e395c27a6b61dbb93a0614b62dae82289e078b729310721"), looks := true }, kinds := [], alts := [], laidByText := true, laidKinds := [.mapped, .data], laidTests := true, laidLooks := .later }
def FnExactSimpleUptoCardSaid : Prop := Claim7.holds Tryz.pinned (.plain (OpenSpec.upto fnExactSimpleSpec)) fnExactSimpleUptoCard

/-- THE SECOND FORM's CARD OF 'laws.FnExactProofRun'. -/
def fnExactProofRunUptoCard : Claim7 := { stood := { row := fnExactProofRunUptoRow, standIns := [], harness := (true, "eb146e2eff2e8c8a0e395c27a6b61dbb93a0614b62dae82289e078b729310721"), looks := true }, kinds := [], alts := [], laidByText := true, laidKinds := [.mapped, .data], laidTests := true, laidLooks := .later }
def FnExactProofRunUptoCardSaid : Prop := Claim7.holds Tryz.pinned (.plain (OpenSpec.upto fnExactProofRunSpec)) fnExactProofRunUptoCard

/-- THE SECOND FORM's CARD OF 'laws.FnExactSimpleBy'. -/
def fnExactSimpleByUptoCard : Claim7 := { stood := { row := fnExactSimpleByUptoRow, standIns := [], harness := (true, "eb146e2eff2e8c8a0e395c27a6b61dbb93a0614b62dae82289e078b729310721"), looks := true }, kinds := [], alts := [], laidByText := true, laidKinds := [.mapped, .data], laidTests := true, laidLooks := .later }
def FnExactSimpleByUptoCardSaid : Prop := Claim7.holds Tryz.pinned (.plain (OpenSpec.upto fnExactSimpleBySpec)) fnExactSimpleByUptoCard

/-- THE SECOND FORM's CARD OF 'laws.FnExactDeskValid'. -/
def fnExactDeskValidUptoCard : Claim7 := { stood := { row := fnExactDeskValidUptoRow, standIns := [], harness := (true, "eb146e2eff2e8c8a0e395c27a6b61dbb93a0614b62dae82289e078b729310721"), looks := true }, kinds := [], alts := [], laidByText := true, laidKinds := [.mapped, .data], laidTests := true, laidLooks := .later }
def FnExactDeskValidUptoCardSaid : Prop := Claim7.holds Tryz.pinned (.plain (OpenSpec.upto fnExactDeskValidSpec)) fnExactDeskValidUptoCard

/-- THE SECOND FORM's CARD OF 'laws.FnExactDeskDone'. -/
def fnExactDeskDoneUptoCard : Claim7 := { stood := { row := fnExactDeskDoneUptoRow, standIns := [], harness := (true, "eb146e2eff2e8c8a0e395c27a6b61dbb93a0614b62dae82289e078b729310721"), looks := true }, kinds := [], alts := [], laidByText := true, laidKinds := [.mapped, .data], laidTests := true, laidLooks := .later }
def FnExactDeskDoneUptoCardSaid : Prop := Claim7.holds Tryz.pinned (.plain (OpenSpec.upto fnExactDeskDoneSpec)) fnExactDeskDoneUptoCard

/-- THE SECOND FORM's CARD OF 'laws.FnExactMoveDo'. -/
def fnExactMoveDoUptoCard : Claim7 := { stood := { row := fnExactMoveDoUptoRow, standIns := [], harness := (true, "eb146e2eff2e8c8a0e395c27a6b61dbb93a0614b62dae82289e078b729310721"), looks := true }, kinds := [], alts := [], laidByText := true, laidKinds := [.handle, .mapped, .data], laidTests := true, laidLooks := .later }
def FnExactMoveDoUptoCardSaid : Prop := Claim7.holds Tryz.pinned (.plain (OpenSpec.upto fnExactMoveDoSpec)) fnExactMoveDoUptoCard

/-- THE SECOND FORM's CARD OF 'laws.FnExactDeskDo'. -/
def fnExactDeskDoUptoCard : Claim7 := { stood := { row := fnExactDeskDoUptoRow, standIns := [], harness := (true, "eb146e2eff2e8c8a0e395c27a6b61dbb93a0614b62dae82289e078b729310721"), looks := true }, kinds := [], alts := [], laidByText := true, laidKinds := [.mapped, .data], laidTests := true, laidLooks := .later }
def FnExactDeskDoUptoCardSaid : Prop := Claim7.holds Tryz.pinned (.plain (OpenSpec.upto fnExactDeskDoSpec)) fnExactDeskDoUptoCard

/-- THE SECOND FORM's CARD OF 'laws.FnExactDeskRun'. -/
def fnExactDeskRunUptoCard : Claim7 := { stood := { row := fnExactDeskRunUptoRow, standIns := [], harness := (true, "eb146e2eff2e8c8a0e395c27a6b61dbb93a0614b62dae82289e078b729310721"), looks := true }, kinds := [], alts := [], laidByText := true, laidKinds := [.mapped, .data], laidTests := true, laidLooks := .later }
def FnExactDeskRunUptoCardSaid : Prop := Claim7.holds Tryz.pinned (.plain (OpenSpec.upto fnExactDeskRunSpec)) fnExactDeskRunUptoCard
end Rows
end Go.Proofs.YtjpndimhegfbnaaGreatDoor
