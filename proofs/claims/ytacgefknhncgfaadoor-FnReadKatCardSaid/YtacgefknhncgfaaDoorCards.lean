/-
  DERIVED. GIVEN WITH THE SEED: THE CARDS: each row of YtacgefknhncgfaaDoorRows.lean that lists a variable, with what it lists TIED to the program's text (the seventh form; the later family's looks); each row that meets fmt, with fmt's text TOLD by the authors' own Lean function (tested against real Go, not proved from fmt's source: count such statements apart). THE CARD IS WHAT COUNTS. Prove the row's statement (the work); the ties are given (YtacgefknhncgfaaDoorTie.lean); close each card by the builder's one call (the guide's Derived/Test/ToyasCard.lean, 'card_holds'). Laid BY PROGRAM, IN A SANDBOX (cutbox-door.mjs). By AI agents, Wed Nov 11 2026. No macro, syntax, notation, axiom, sorry.
-/
import Derived.Test.YtacgefknhncgfaaDoorRows
import GoSem.ClaimSeven
namespace Go.Proofs.YtacgefknhncgfaaDoor
namespace Rows

/-- THE TIED CARD OF 'laws.FnReadKat'. -/
def fnReadKatCard : Claim7 := { stood := { row := fnReadKatRow, standIns := [], harness := (true, "2bda57b5e84403b0a696047d44076c08bf27f5482aa61fa5e0ff512a1db9f07a"), looks := true }, kinds := [], alts := [], laidByText := true, laidKinds := [.mapped], laidTests := true, laidLooks := .later }
def FnReadKatCardSaid : Prop := Claim7.holds Tryd.pinned (.plain (OpenSpec.ofChange fnReadKatSpec)) fnReadKatCard

/-- THE SECOND FORM's CARD OF 'laws.FnReadKat'. -/
def fnReadKatUptoCard : Claim7 := { stood := { row := fnReadKatUptoRow, standIns := [], harness := (true, "2bda57b5e84403b0a696047d44076c08bf27f5482aa61fa5e0ff512a1db9f07a"), looks := true }, kinds := [], alts := [], laidByText := true, laidKinds := [.mapped], laidTests := true, laidLooks := .later }
def FnReadKatUptoCardSaid : Prop := Claim7.holds Tryd.pinned (.plain (OpenSpec.upto fnReadKatSpec)) fnReadKatUptoCard
end Rows
end Go.Proofs.YtacgefknhncgfaaDoor
