/-
  DERIVED. GIVEN WITH THE SEED: THE CARDS: each row of YtkdgpbnngkljkaaDoorRows.lean that lists a variable, with what it lists TIED to the program's text (the seventh form; the later family's looks); each row that meets fmt, with fmt's text TOLD by the authors' own Lean function (tested against real Go, not proved from fmt's source: count such statements apart). THE CARD IS WHAT COUNTS. Prove the row's statement (the work); the ties are given (YtkdgpbnngkljkaaDoorTie.lean); close each card by the builder's one call (the guide's Derived/Test/ToyasCard.lean, 'card_holds'). Laid BY PROGRAM, IN A SANDBOX (cutbox-door.mjs). By AI agents, Wed Nov 11 2026. No macro, syntax, notation, axiom, sorry.
-/
import Derived.Test.YtkdgpbnngkljkaaDoorRows
import GoSem.ClaimSeven
namespace Go.Proofs.YtkdgpbnngkljkaaDoor
namespace Rows

/-- THE TIED CARD OF 'laws.FnExactReadMove'. -/
def fnExactReadMoveCard : Claim7 := { stood := { row := fnExactReadMoveRow, standIns := [], harness := (true, "bd5b7dd3be64cf107061dd1e72517b64abf69e93362e7806aa7c70e84f1f3400"), looks := true }, kinds := [], alts := [], laidByText := true, laidKinds := [.data, .data, .data, .sentinel, .sentinel], laidTests := true, laidLooks := .later }
def FnExactReadMoveCardSaid : Prop := Claim7.holds Tryd.pinned (.plain (OpenSpec.ofChange fnExactReadMoveSpec)) fnExactReadMoveCard

/-- THE TIED CARD OF 'laws.FnMoveText'. -/
def fnMoveTextCard : Claim7 := { stood := { row := fnMoveTextRow, standIns := [], harness := (true, "bd5b7dd3be64cf107061dd1e72517b64abf69e93362e7806aa7c70e84f1f3400"), looks := true }, kinds := [], alts := [], laidByText := true, laidKinds := [.data, .data, .data, .sentinel, .sentinel], laidTests := true, laidLooks := .later }
def FnMoveTextCardSaid : Prop := Claim7.holds Tryd.pinned (.plain (OpenSpec.ofChange fnMoveTextSpec)) fnMoveTextCard

/-- THE TIED CARD OF 'laws.FnReadMove'. -/
def fnReadMoveCard : Claim7 := { stood := { row := fnReadMoveRow, standIns := [], harness := (true, "bd5b7dd3be64cf107061dd1e72517b64abf69e93362e7806aa7c70e84f1f3400"), looks := true }, kinds := [], alts := [], laidByText := true, laidKinds := [.data, .data, .data, .sentinel, .sentinel], laidTests := true, laidLooks := .later }
def FnReadMoveCardSaid : Prop := Claim7.holds Tryd.pinned (.plain (OpenSpec.ofChange fnReadMoveSpec)) fnReadMoveCard

/-- THE TIED CARD OF 'laws.FnExactReadAct'. -/
def fnExactReadActCard : Claim7 := { stood := { row := fnExactReadActRow, standIns := [], harness := (true, "bd5b7dd3be64cf107061dd1e72517b64abf69e93362e7806aa7c70e84f1f3400"), looks := true }, kinds := [], alts := [], laidByText := true, laidKinds := [.data, .data, .data, .sentinel, .sentinel], laidTests := true, laidLooks := .later }
def FnExactReadActCardSaid : Prop := Claim7.holds Tryd.pinned (.plain (OpenSpec.ofChange fnExactReadActSpec)) fnExactReadActCard

/-- THE TIED CARD OF 'laws.FnExactReadJournal'. -/
def fnExactReadJournalCard : Claim7 := { stood := { row := fnExactReadJournalRow, standIns := [], harness := (true, "bd5b7dd3be64cf107061dd1e72517b64abf69e93362e7806aa7c70e84f1f3400"), looks := true }, kinds := [], alts := [], laidByText := true, laidKinds := [.data, .data, .data, .sentinel, .sentinel], laidTests := true, laidLooks := .later }
def FnExactReadJournalCardSaid : Prop := Claim7.holds Tryd.pinned (.plain (OpenSpec.ofChange fnExactReadJournalSpec)) fnExactReadJournalCard

/-- THE SECOND FORM's CARD OF 'laws.FnExactReadMove'. -/
def fnExactReadMoveUptoCard : Claim7 := { stood := { row := fnExactReadMoveUptoRow, standIns := [], harness := (true, "bd5b7dd3be64cf107061dd1e72517b64abf69e93362e7806aa7c70e84f1f3400"), looks := true }, kinds := [], alts := [], laidByText := true, laidKinds := [.data, .data, .data, .sentinel, .sentinel], laidTests := true, laidLooks := .later }
def FnExactReadMoveUptoCardSaid : Prop := Claim7.holds Tryd.pinned (.plain (OpenSpec.upto fnExactReadMoveSpec)) fnExactReadMoveUptoCard

/-- THE SECOND FORM's CARD OF 'laws.FnMoveText'. -/
def fnMoveTextUptoCard : Claim7 := { stood := { row := fnMoveTextUptoRow, standIns := [], harness := (true, "bd5b7dd3be64cf107061dd1e72517b64abf69e93362e7806aa7c70e84f1f3400"), looks := true }, kinds := [], alts := [], laidByText := true, laidKinds := [.data, .data, .data, .sentinel, .sentinel], laidTests := true, laidLooks := .later }
def FnMoveTextUptoCardSaid : Prop := Claim7.holds Tryd.pinned (.plain (OpenSpec.upto fnMoveTextSpec)) fnMoveTextUptoCard

/-- THE SECOND FORM's CARD OF 'laws.FnReadMove'. -/
def fnReadMoveUptoCard : Claim7 := { stood := { row := fnReadMoveUptoRow, standIns := [], harness := (true, "bd5b7dd3be64cf107061dd1e72517b64abf69e93362e7806aa7c70e84f1f3400"), looks := true }, kinds := [], alts := [], laidByText := true, laidKinds := [.data, .data, .data, .sentinel, .sentinel], laidTests := true, laidLooks := .later }
def FnReadMoveUptoCardSaid : Prop := Claim7.holds Tryd.pinned (.plain (OpenSpec.upto fnReadMoveSpec)) fnReadMoveUptoCard

/-- THE SECOND FORM's CARD OF 'laws.FnExactReadAct'. -/
def fnExactReadActUptoCard : Claim7 := { stood := { row := fnExactReadActUptoRow, standIns := [], harness := (true, "bd5b7dd3be64cf107061dd1e72517b64abf69e93362e7806aa7c70e84f1f3400"), looks := true }, kinds := [], alts := [], laidByText := true, laidKinds := [.data, .data, .data, .sentinel, .sentinel], laidTests := true, laidLooks := .later }
def FnExactReadActUptoCardSaid : Prop := Claim7.holds Tryd.pinned (.plain (OpenSpec.upto fnExactReadActSpec)) fnExactReadActUptoCard

/-- THE SECOND FORM's CARD OF 'laws.FnExactReadJournal'. -/
def fnExactReadJournalUptoCard : Claim7 := { stood := { row := fnExactReadJournalUptoRow, standIns := [], harness := (true, "bd5b7dd3be64cf107061dd1e72517b64abf69e93362e7806aa7c70e84f1f3400"), looks := true }, kinds := [], alts := [], laidByText := true, laidKinds := [.data, .data, .data, .sentinel, .sentinel], laidTests := true, laidLooks := .later }
def FnExactReadJournalUptoCardSaid : Prop := Claim7.holds Tryd.pinned (.plain (OpenSpec.upto fnExactReadJournalSpec)) fnExactReadJournalUptoCard
end Rows
end Go.Proofs.YtkdgpbnngkljkaaDoor
