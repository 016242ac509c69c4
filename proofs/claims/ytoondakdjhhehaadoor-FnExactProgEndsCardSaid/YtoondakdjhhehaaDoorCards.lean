/-
  DERIVED. GIVEN WITH THE SEED: THE CARDS: each row of YtoondakdjhhehaaDoorRows.lean that lists a variable, with what it lists TIED to the program's text (the seventh form; the later family's looks); each row that meets fmt, with fmt's text TOLD by the authors' own Lean function (tested against real Go, not proved from fmt's source: count such statements apart). THE CARD IS WHAT COUNTS. Prove the row's statement (the work); the ties are given (YtoondakdjhhehaaDoorTie.lean); close each card by the builder's one call (the guide's Derived/Test/ToyasCard.lean, 'card_holds'). Laid BY PROGRAM, IN A SANDBOX (cutbox-door.mjs). By AI agents, Wed Nov 11 2026. No macro, syntax, notation, axiom, sorry.
-/
import Derived.Test.YtoondakdjhhehaaDoorRows
import GoSem.ClaimSeven
namespace Go.Proofs.YtoondakdjhhehaaDoor
namespace Rows

/-- THE TIED CARD OF 'laws.FnCodeRun'. -/
def fnCodeRunCard : Claim7 := { stood := { row := fnCodeRunRow, standIns := [], harness := (true, "0dae0cf08fc3f28cc55af35ebd9cbad55d563f550fe7ddf01de50e172cfff250"), looks := false }, kinds := [], alts := [], laidByText := true, laidKinds := [.data, .data], laidTests := true, laidLooks := .later }
def FnCodeRunCardSaid : Prop := Claim7.holds Tryd.pinned (.plain (OpenSpec.ofChange fnCodeRunSpec)) fnCodeRunCard

/-- THE TIED CARD OF 'laws.FnCodeShort'. -/
def fnCodeShortCard : Claim7 := { stood := { row := fnCodeShortRow, standIns := [], harness := (true, "0dae0cf08fc3f28cc55af35ebd9cbad55d563f550fe7ddf01de50e172cfff250"), looks := false }, kinds := [], alts := [], laidByText := true, laidKinds := [.data, .data], laidTests := true, laidLooks := .later }
def FnCodeShortCardSaid : Prop := Claim7.holds Tryd.pinned (.plain (OpenSpec.ofChange fnCodeShortSpec)) fnCodeShortCard

/-- THE TIED CARD OF 'laws.FnExactProgEnds'. -/
def fnExactProgEndsCard : Claim7 := { stood := { row := fnExactProgEndsRow, standIns := [], harness := (true, "0dae0cf08fc3f28cc55af35ebd9cbad55d563f550fe7ddf01de50e172cfff250"), looks := false }, kinds := [], alts := [], laidByText := true, laidKinds := [.data, .data], laidTests := true, laidLooks := .later }
def FnExactProgEndsCardSaid : Prop := Claim7.holds Tryd.pinned (.plain (OpenSpec.ofChange fnExactProgEndsSpec)) fnExactProgEndsCard

/-- THE TIED CARD OF 'laws.FnProgCode'. -/
def fnProgCodeCard : Claim7 := { stood := { row := fnProgCodeRow, standIns := [], harness := (true, "0dae0cf08fc3f28cc55af35ebd9cbad55d563f550fe7ddf01de50e172cfff250"), looks := false }, kinds := [], alts := [], laidByText := true, laidKinds := [.data, .data], laidTests := true, laidLooks := .later }
def FnProgCodeCardSaid : Prop := Claim7.holds Tryd.pinned (.plain (OpenSpec.ofChange fnProgCodeSpec)) fnProgCodeCard

/-- THE TIED CARD OF 'laws.FnProgEnds'. -/
def fnProgEndsCard : Claim7 := { stood := { row := fnProgEndsRow, standIns := [], harness := (true, "0dae0cf08fc3f28cc55af35ebd9cbad55d563f550fe7ddf01de50e172cfff250"), looks := false }, kinds := [], alts := [], laidByText := true, laidKinds := [.data, .data], laidTests := true, laidLooks := .later }
def FnProgEndsCardSaid : Prop := Claim7.holds Tryd.pinned (.plain (OpenSpec.ofChange fnProgEndsSpec)) fnProgEndsCard

/-- THE SECOND FORM's CARD OF 'laws.FnCodeRun'. -/
def fnCodeRunUptoCard : Claim7 := { stood := { row := fnCodeRunUptoRow, standIns := [], harness := (true, "0dae0cf08fc3f28cc55af35ebd9cbad55d563f550fe7ddf01de50e172cfff250"), looks := false }, kinds := [], alts := [], laidByText := true, laidKinds := [.data, .data], laidTests := true, laidLooks := .later }
def FnCodeRunUptoCardSaid : Prop := Claim7.holds Tryd.pinned (.plain (OpenSpec.upto fnCodeRunSpec)) fnCodeRunUptoCard

/-- THE SECOND FORM's CARD OF 'laws.FnCodeShort'. -/
def fnCodeShortUptoCard : Claim7 := { stood := { row := fnCodeShortUptoRow, standIns := [], harness := (true, "0dae0cf08fc3f28cc55af35ebd9cbad55d563f550fe7ddf01de50e172cfff250"), looks := false }, kinds := [], alts := [], laidByText := true, laidKinds := [.data, .data], laidTests := true, laidLooks := .later }
def FnCodeShortUptoCardSaid : Prop := Claim7.holds Tryd.pinned (.plain (OpenSpec.upto fnCodeShortSpec)) fnCodeShortUptoCard

/-- THE SECOND FORM's CARD OF 'laws.FnExactProgEnds'. -/
def fnExactProgEndsUptoCard : Claim7 := { stood := { row := fnExactProgEndsUptoRow, standIns := [], harness := (true, "0dae0cf08fc3f28cc55af35ebd9cbad55d563f550fe7ddf01de50e172cfff250"), looks := false }, kinds := [], alts := [], laidByText := true, laidKinds := [.data, .data], laidTests := true, laidLooks := .later }
def FnExactProgEndsUptoCardSaid : Prop := Claim7.holds Tryd.pinned (.plain (OpenSpec.upto fnExactProgEndsSpec)) fnExactProgEndsUptoCard

/-- THE SECOND FORM's CARD OF 'laws.FnProgCode'. -/
def fnProgCodeUptoCard : Claim7 := { stood := { row := fnProgCodeUptoRow, standIns := [], harness := (true, "0dae0cf08fc3f28cc55af35ebd9cbad55d563f550fe7ddf01de50e172cfff250"), looks := false }, kinds := [], alts := [], laidByText := true, laidKinds := [.data, .data], laidTests := true, laidLooks := .later }
def FnProgCodeUptoCardSaid : Prop := Claim7.holds Tryd.pinned (.plain (OpenSpec.upto fnProgCodeSpec)) fnProgCodeUptoCard

/-- THE SECOND FORM's CARD OF 'laws.FnProgEnds'. -/
def fnProgEndsUptoCard : Claim7 := { stood := { row := fnProgEndsUptoRow, standIns := [], harness := (true, "0dae0cf08fc3f28cc55af35ebd9cbad55d563f550fe7ddf01de50e172cfff250"), looks := false }, kinds := [], alts := [], laidByText := true, laidKinds := [.data, .data], laidTests := true, laidLooks := .later }
def FnProgEndsUptoCardSaid : Prop := Claim7.holds Tryd.pinned (.plain (OpenSpec.upto fnProgEndsSpec)) fnProgEndsUptoCard
end Rows
end Go.Proofs.YtoondakdjhhehaaDoor
