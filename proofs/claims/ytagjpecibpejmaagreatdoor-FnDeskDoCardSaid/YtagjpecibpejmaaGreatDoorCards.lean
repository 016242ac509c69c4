/-
  DERIVED. GIVEN WITH THE SEED: THE CARDS: each row of YtagjpecibpejmaaGreatDoorRows.lean that lists a variable, with what it lists TIED to the program's text (the seventh form; the later family's looks); each row that meets fmt, with fmt's text TOLD by the authors' own Lean function (tested against real Go, not proved from fmt's source: count such statements apart). THE CARD IS WHAT COUNTS. Prove the row's statement (the work); the ties are given (YtagjpecibpejmaaGreatDoorTie.lean); close each card by the builder's one call (the guide's Derived/Test/ToyasCard.lean, 'card_holds'). Laid BY PROGRAM, IN A SANDBOX (cutbox-door.mjs). By AI agents, Wed Nov 11 2026. No macro, syntax, notation, axiom, sorry.
-/
import Derived.Test.YtagjpecibpejmaaGreatDoorRows
import GoSem.ClaimSeven
namespace Go.Proofs.YtagjpecibpejmaaGreatDoor
namespace Rows

/-- THE TIED CARD OF 'laws.FnRuleOf'. -/
def fnRuleOfCard : Claim7 := { stood := { row := fnRuleOfRow, standIns := [], harness := (true, "2eaa452c48a945ccd7a131988e45aa85a9901da540383afe4bb5ffb9bfc70172"), looks := true }, kinds := [], alts := [], laidByText := true, laidKinds := [.mapped, .data], laidTests := true, laidLooks := .later }
def FnRuleOfCardSaid : Prop := Claim7.holds Tryz.pinned (.plain (OpenSpec.ofChange fnRuleOfSpec)) fnRuleOfCard

/-- THE TIED CARD OF 'laws.FnProofRun'. -/
def fnProofRunCard : Claim7 := { stood := { row := fnProofRunRow, standIns := [], harness := (true, "2eaa452c48a945ccd7a131988e45aa85a9901da540383afe4bb5ffb9bfc70172"), looks := true }, kinds := [], alts := [], laidByText := true, laidKinds := [.mapped, .data], laidTests := true, laidLooks := .later }
def FnProofRunCardSaid : Prop := Claim7.holds Tryz.pinned (.plain (OpenSpec.ofChange fnProofRunSpec)) fnProofRunCard

/-- THE TIED CARD OF 'laws.FnSimpleBy'. -/
def fnSimpleByCard : Claim7 := { stood := { row := fnSimpleByRow, standIns := [], harness := (true, "2eaa452c48a945ccd7a131988e45aa85a9901da540383afe4bb5ffb9bfc70172"), looks := true }, kinds := [], alts := [], laidByText := true, laidKinds := [.mapped, .data], laidTests := true, laidLooks := .later }
def FnSimpleByCardSaid : Prop := Claim7.holds Tryz.pinned (.plain (OpenSpec.ofChange fnSimpleBySpec)) fnSimpleByCard

/-- THE TIED CARD OF 'laws.FnMovesAt'. -/
def fnMovesAtCard : Claim7 := { stood := { row := fnMovesAtRow, standIns := [], harness := (true, "2eaa452c48a945ccd7a131988e45aa85a9901da540383afe4bb5ffb9bfc70172"), looks := true }, kinds := [], alts := [], laidByText := true, laidKinds := [.handle, .mapped, .data], laidTests := true, laidLooks := .later }
def FnMovesAtCardSaid : Prop := Claim7.holds Tryz.pinned (.plain (OpenSpec.ofChange fnMovesAtSpec)) fnMovesAtCard

/-- THE TIED CARD OF 'laws.FnActText'. -/
def fnActTextCard : Claim7 := { stood := { row := fnActTextRow, standIns := [], harness := (true, "2eaa452c48a945ccd7a131988e45aa85a9901da540383afe4bb5ffb9bfc70172"), looks := true }, kinds := [], alts := [], laidByText := true, laidKinds := [.data, .data, .data, .sentinel, .sentinel], laidTests := true, laidLooks := .later }
def FnActTextCardSaid : Prop := Claim7.holds Tryz.pinned (.plain (OpenSpec.ofChange fnActTextSpec)) fnActTextCard

/-- THE TIED CARD OF 'laws.FnReadAct'. -/
def fnReadActCard : Claim7 := { stood := { row := fnReadActRow, standIns := [], harness := (true, "2eaa452c48a945ccd7a131988e45aa85a9901da540383afe4bb5ffb9bfc70172"), looks := true }, kinds := [], alts := [], laidByText := true, laidKinds := [.data, .data, .data, .sentinel, .sentinel], laidTests := true, laidLooks := .later }
def FnReadActCardSaid : Prop := Claim7.holds Tryz.pinned (.plain (OpenSpec.ofChange fnReadActSpec)) fnReadActCard

/-- THE TIED CARD OF 'laws.FnDeskDo'. -/
def fnDeskDoCard : Claim7 := { stood := { row := fnDeskDoRow, standIns := [], harness := (true, "2eaa452c48a945ccd7a131988e45aa85a9901da540383afe4bb5ffb9bfc70172"), looks := true }, kinds := [], alts := [], laidByText := true, laidKinds := [.mapped, .data], laidTests := true, laidLooks := .later }
def FnDeskDoCardSaid : Prop := Claim7.holds Tryz.pinned (.plain (OpenSpec.ofChange fnDeskDoSpec)) fnDeskDoCard

/-- THE TIED CARD OF 'laws.FnJournalText'. -/
def fnJournalTextCard : Claim7 := { stood := { row := fnJournalTextRow, standIns := [], harness := (true, "2eaa452c48a945ccd7a131988e45aa85a9901da540383afe4bb5ffb9bfc70172"), looks := true }, kinds := [], alts := [], laidByText := true, laidKinds := [.data, .data, .data, .sentinel, .sentinel], laidTests := true, laidLooks := .later }
def FnJournalTextCardSaid : Prop := Claim7.holds Tryz.pinned (.plain (OpenSpec.ofChange fnJournalTextSpec)) fnJournalTextCard

/-- THE SECOND FORM's CARD OF 'laws.FnRuleOf'. -/
def fnRuleOfUptoCard : Claim7 := { stood := { row := fnRuleOfUptoRow, standIns := [], harness := (true, "2eaa452c48a945ccd7a131988e45aa85a9901da540383afe4bb5ffb9bfc70172"), looks := true }, kinds := [], alts := [], laidByText := true, laidKinds := [.mapped, .data], laidTests := true, laidLooks := .later }
def FnRuleOfUptoCardSaid : Prop := Claim7.holds Tryz.pinned (.plain (OpenSpec.upto fnRuleOfSpec)) fnRuleOfUptoCard

/-- THE SECOND FORM's CARD OF 'laws.FnProofRun'. -/
def fnProofRunUptoCard : Claim7 := { stood := { row := fnProofRunUptoRow, standIns := [], harness := (true, "2eaa452c48a945ccd7a131988e45aa85a9901da540383afe4bb5ffb9bfc70172"), looks := true }, kinds := [], alts := [], laidByText := true, laidKinds := [.mapped, .data], laidTests := true, laidLooks := .later }
def FnProofRunUptoCardSaid : Prop := Claim7.holds Tryz.pinned (.plain (OpenSpec.upto fnProofRunSpec)) fnProofRunUptoCard

/-- THE SECOND FORM's CARD OF 'laws.FnSimpleBy'. -/
def fnSimpleByUptoCard : Claim7 := { stood := { row := fnSimpleByUptoRow, standIns := [], harness := (true, "2eaa452c48a945ccd7a131988e45aa85a9901da540383afe4bb5ffb9bfc70172"), looks := true }, kinds := [], alts := [], laidByText := true, laidKinds := [.mapped, .data], laidTests := true, laidLooks := .later }
def FnSimpleByUptoCardSaid : Prop := Claim7.holds Tryz.pinned (.plain (OpenSpec.upto fnSimpleBySpec)) fnSimpleByUptoCard

/-- THE SECOND FORM's CARD OF 'laws.FnMovesAt'. -/
def fnMovesAtUptoCard : Claim7 := { stood := { row := fnMovesAtUptoRow, standIns := [], harness := (true, "2eaa452c48a945ccd7a131988e45aa85a9901da540383afe4bb5ffb9bfc70172"), looks := true }, kinds := [], alts := [], laidByText := true, laidKinds := [.handle, .mapped, .data], laidTests := true, laidLooks := .later }
def FnMovesAtUptoCardSaid : Prop := Claim7.holds Tryz.pinned (.plain (OpenSpec.upto fnMovesAtSpec)) fnMovesAtUptoCard

/-- THE SECOND FORM's CARD OF 'laws.FnActText'. -/
def fnActTextUptoCard : Claim7 := { stood := { row := fnActTextUptoRow, standIns := [], harness := (true, "2eaa452c48a945ccd7a131988e45aa85a9901da540383afe4bb5ffb9bfc70172"), looks := true }, kinds := [], alts := [], laidByText := true, laidKinds := [.data, .data, .data, .sentinel, .sentinel], laidTests := true, laidLooks := .later }
def FnActTextUptoCardSaid : Prop := Claim7.holds Tryz.pinned (.plain (OpenSpec.upto fnActTextSpec)) fnActTextUptoCard

/-- THE SECOND FORM's CARD OF 'laws.FnReadAct'. -/
def fnReadActUptoCard : Claim7 := { stood := { row := fnReadActUptoRow, standIns := [], harness := (true, "2eaa452c48a945ccd7a131988e45aa85a9901da540383afe4bb5ffb9bfc70172"), looks := true }, kinds := [], alts := [], laidByText := true, laidKinds := [.data, .data, .data, .sentinel, .sentinel], laidTests := true, laidLooks := .later }
def FnReadActUptoCardSaid : Prop := Claim7.holds Tryz.pinned (.plain (OpenSpec.upto fnReadActSpec)) fnReadActUptoCard

/-- THE SECOND FORM's CARD OF 'laws.FnDeskDo'. -/
def fnDeskDoUptoCard : Claim7 := { stood := { row := fnDeskDoUptoRow, standIns := [], harness := (true, "2eaa452c48a945ccd7a131988e45aa85a9901da540383afe4bb5ffb9bfc70172"), looks := true }, kinds := [], alts := [], laidByText := true, laidKinds := [.mapped, .data], laidTests := true, laidLooks := .later }
def FnDeskDoUptoCardSaid : Prop := Claim7.holds Tryz.pinned (.plain (OpenSpec.upto fnDeskDoSpec)) fnDeskDoUptoCard

/-- THE SECOND FORM's CARD OF 'laws.FnJournalText'. -/
def fnJournalTextUptoCard : Claim7 := { stood := { row := fnJournalTextUptoRow, standIns := [], harness := (true, "2eaa452c48a945ccd7a131988e45aa85a9901da540383afe4bb5ffb9bfc70172"), looks := true }, kinds := [], alts := [], laidByText := true, laidKinds := [.data, .data, .data, .sentinel, .sentinel], laidTests := true, laidLooks := .later }
def FnJournalTextUptoCardSaid : Prop := Claim7.holds Tryz.pinned (.plain (OpenSpec.upto fnJournalTextSpec)) fnJournalTextUptoCard
end Rows
end Go.Proofs.YtagjpecibpejmaaGreatDoor
