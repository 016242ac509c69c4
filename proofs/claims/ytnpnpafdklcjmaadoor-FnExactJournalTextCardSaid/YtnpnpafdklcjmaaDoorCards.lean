/-
  DERIVED. GIVEN WITH THE SEED: THE CARDS: each row of YtnpnpafdklcjmaaDoorRows.lean that lists a variable, with what it lists TIED to the program's text (the seventh form; the later family's looks); each row that meets fmt, with fmt's text TOLD by the authors' own Lean function (tested against real Go, not proved from fmt's source: count such statements apart). THE CARD IS WHAT COUNTS. Prove the row's statement (the work); the ties are given (YtnpnpafdklcjmaaDoorTie.lean); close each card by the builder's one call (the guide's Derived/Test/ToyasCard.lean, 'card_holds'). Laid BY PROGRAM, IN A SANDBOX (cutbox-door.mjs). By AI agents, Wed Nov 11 2026. No macro, syntax, notation, axiom, sorry.
-/
import Derived.Test.YtnpnpafdklcjmaaDoorRows
import GoSem.ClaimSeven
namespace Go.Proofs.YtnpnpafdklcjmaaDoor
namespace Rows

/-- THE TIED CARD OF 'laws.FnExactMoveText'. -/
def fnExactMoveTextCard : Claim7 := { stood := { row := fnExactMoveTextRow, standIns := [], harness := (true, "bc3daa2bd877d098c3f1be5de8d53a56009efa95e2e408838b5c1e25c9b08d5c"), looks := false }, kinds := [], alts := [], laidByText := true, laidKinds := [.data, .data, .data], laidTests := true, laidLooks := .later }
def FnExactMoveTextCardSaid : Prop := Claim7.holds Tryd.pinned (.plain (OpenSpec.ofChange fnExactMoveTextSpec)) fnExactMoveTextCard

/-- THE TIED CARD OF 'laws.FnExactActText'. -/
def fnExactActTextCard : Claim7 := { stood := { row := fnExactActTextRow, standIns := [], harness := (true, "bc3daa2bd877d098c3f1be5de8d53a56009efa95e2e408838b5c1e25c9b08d5c"), looks := false }, kinds := [], alts := [], laidByText := true, laidKinds := [.data, .data, .data], laidTests := true, laidLooks := .later }
def FnExactActTextCardSaid : Prop := Claim7.holds Tryd.pinned (.plain (OpenSpec.ofChange fnExactActTextSpec)) fnExactActTextCard

/-- THE TIED CARD OF 'laws.FnExactJournalText'. -/
def fnExactJournalTextCard : Claim7 := { stood := { row := fnExactJournalTextRow, standIns := [], harness := (true, "bc3daa2bd877d098c3f1be5de8d53a56009efa95e2e408838b5c1e25c9b08d5c"), looks := false }, kinds := [], alts := [], laidByText := true, laidKinds := [.data, .data, .data], laidTests := true, laidLooks := .later }
def FnExactJournalTextCardSaid : Prop := Claim7.holds Tryd.pinned (.plain (OpenSpec.ofChange fnExactJournalTextSpec)) fnExactJournalTextCard

/-- THE SECOND FORM's CARD OF 'laws.FnExactMoveText'. -/
def fnExactMoveTextUptoCard : Claim7 := { stood := { row := fnExactMoveTextUptoRow, standIns := [], harness := (true, "bc3daa2bd877d098c3f1be5de8d53a56009efa95e2e408838b5c1e25c9b08d5c"), looks := false }, kinds := [], alts := [], laidByText := true, laidKinds := [.data, .data, .data], laidTests := true, laidLooks := .later }
def FnExactMoveTextUptoCardSaid : Prop := Claim7.holds Tryd.pinned (.plain (OpenSpec.upto fnExactMoveTextSpec)) fnExactMoveTextUptoCard

/-- THE SECOND FORM's CARD OF 'laws.FnExactActText'. -/
def fnExactActTextUptoCard : Claim7 := { stood := { row := fnExactActTextUptoRow, standIns := [], harness := (true, "bc3daa2bd877d098c3f1be5de8d53a56009efa95e2e408838b5c1e25c9b08d5c"), looks := false }, kinds := [], alts := [], laidByText := true, laidKinds := [.data, .data, .data], laidTests := true, laidLooks := .later }
def FnExactActTextUptoCardSaid : Prop := Claim7.holds Tryd.pinned (.plain (OpenSpec.upto fnExactActTextSpec)) fnExactActTextUptoCard

/-- THE SECOND FORM's CARD OF 'laws.FnExactJournalText'. -/
def fnExactJournalTextUptoCard : Claim7 := { stood := { row := fnExactJournalTextUptoRow, standIns := [], harness := (true, "bc3daa2bd877d098c3f1be5de8d53a56009efa95e2e408838b5c1e25c9b08d5c"), looks := false }, kinds := [], alts := [], laidByText := true, laidKinds := [.data, .data, .data], laidTests := true, laidLooks := .later }
def FnExactJournalTextUptoCardSaid : Prop := Claim7.holds Tryd.pinned (.plain (OpenSpec.upto fnExactJournalTextSpec)) fnExactJournalTextUptoCard
end Rows
end Go.Proofs.YtnpnpafdklcjmaaDoor
