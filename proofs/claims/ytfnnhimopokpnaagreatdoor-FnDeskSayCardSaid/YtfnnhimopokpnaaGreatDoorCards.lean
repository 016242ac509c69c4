/-
  DERIVED. GIVEN WITH THE SEED: THE CARDS: each row of YtfnnhimopokpnaaGreatDoorRows.lean that lists a variable, with what it lists TIED to the program's text (the seventh form; the later family's looks); each row that meets fmt, with fmt's text TOLD by the authors' own Lean function (tested against real Go, not proved from fmt's source: count such statements apart). THE CARD IS WHAT COUNTS. Prove the row's statement (the work); the ties are given (YtfnnhimopokpnaaGreatDoorTie.lean); close each card by the builder's one call (the guide's Derived/Test/ToyasCard.lean, 'card_holds'). Laid BY PROGRAM, IN A SANDBOX (cutbox-door.mjs). By AI agents, Wed Nov 11 2026. No macro, syntax, notation, axiom, sorry.
-/
import Derived.Test.YtfnnhimopokpnaaGreatDoorRows
import GoSem.ClaimSeven
namespace Go.Proofs.YtfnnhimopokpnaaGreatDoor
namespace Rows

/-- THE TIED CARD OF 'laws.FnExactDeskSay'. -/
def fnExactDeskSayCard : Claim7 := { stood := { row := fnExactDeskSayRow, standIns := [], harness := (true, "2db47e60802d48e2cdeb32c5325f74adef0a1a467a8e3f596ee6999b1ff566b9"), looks := true }, kinds := [], alts := [], laidByText := true, laidKinds := [.data, .data, .data, .sentinel, .sentinel, .mapped, .data], laidTests := true, laidLooks := .later }
def FnExactDeskSayCardSaid : Prop := Claim7.holds Tryz.pinned (.plain (OpenSpec.ofChange fnExactDeskSaySpec)) fnExactDeskSayCard

/-- THE TIED CARD OF 'laws.FnDeskLine'. -/
def fnDeskLineCard : Claim7 := { stood := { row := fnDeskLineRow, standIns := [], harness := (true, "2db47e60802d48e2cdeb32c5325f74adef0a1a467a8e3f596ee6999b1ff566b9"), looks := true }, kinds := [], alts := [], laidByText := true, laidKinds := [.data, .data, .data, .sentinel, .sentinel, .mapped, .data], laidTests := true, laidLooks := .later }
def FnDeskLineCardSaid : Prop := Claim7.holds Tryz.pinned (.plain (OpenSpec.ofChange fnDeskLineSpec)) fnDeskLineCard

/-- THE TIED CARD OF 'laws.FnDeskSay'. -/
def fnDeskSayCard : Claim7 := { stood := { row := fnDeskSayRow, standIns := [], harness := (true, "2db47e60802d48e2cdeb32c5325f74adef0a1a467a8e3f596ee6999b1ff566b9"), looks := true }, kinds := [], alts := [], laidByText := true, laidKinds := [.data, .data, .data, .sentinel, .sentinel, .mapped, .data], laidTests := true, laidLooks := .later }
def FnDeskSayCardSaid : Prop := Claim7.holds Tryz.pinned (.plain (OpenSpec.ofChange fnDeskSaySpec)) fnDeskSayCard

/-- THE TIED CARD OF 'laws.FnExactDeskLine'. -/
def fnExactDeskLineCard : Claim7 := { stood := { row := fnExactDeskLineRow, standIns := [], harness := (true, "2db47e60802d48e2cdeb32c5325f74adef0a1a467a8e3f596ee6999b1ff566b9"), looks := true }, kinds := [], alts := [], laidByText := true, laidKinds := [.data, .data, .data, .sentinel, .sentinel, .mapped, .data], laidTests := true, laidLooks := .later }
def FnExactDeskLineCardSaid : Prop := Claim7.holds Tryz.pinned (.plain (OpenSpec.ofChange fnExactDeskLineSpec)) fnExactDeskLineCard

/-- THE SECOND FORM's CARD OF 'laws.FnExactDeskSay'. -/
def fnExactDeskSayUptoCard : Claim7 := { stood := { row := fnExactDeskSayUptoRow, standIns := [], harness := (true, "2db47e60802d48e2cdeb32c5325f74adef0a1a467a8e3f596ee6999b1ff566b9"), looks := true }, kinds := [], alts := [], laidByText := true, laidKinds := [.data, .data, .data, .sentinel, .sentinel, .mapped, .data], laidTests := true, laidLooks := .later }
def FnExactDeskSayUptoCardSaid : Prop := Claim7.holds Tryz.pinned (.plain (OpenSpec.upto fnExactDeskSaySpec)) fnExactDeskSayUptoCard

/-- THE SECOND FORM's CARD OF 'laws.FnDeskLine'. -/
def fnDeskLineUptoCard : Claim7 := { stood := { row := fnDeskLineUptoRow, standIns := [], harness := (true, "2db47e60802d48e2cdeb32c5325f74adef0a1a467a8e3f596ee6999b1ff566b9"), looks := true }, kinds := [], alts := [], laidByText := true, laidKinds := [.data, .data, .data, .sentinel, .sentinel, .mapped, .data], laidTests := true, laidLooks := .later }
def FnDeskLineUptoCardSaid : Prop := Claim7.holds Tryz.pinned (.plain (OpenSpec.upto fnDeskLineSpec)) fnDeskLineUptoCard

/-- THE SECOND FORM's CARD OF 'laws.FnDeskSay'. -/
def fnDeskSayUptoCard : Claim7 := { stood := { row := fnDeskSayUptoRow, standIns := [], harness := (true, "2db47e60802d48e2cdeb32c5325f74adef0a1a467a8e3f596ee6999b1ff566b9"), looks := true }, kinds := [], alts := [], laidByText := true, laidKinds := [.data, .data, .data, .sentinel, .sentinel, .mapped, .data], laidTests := true, laidLooks := .later }
def FnDeskSayUptoCardSaid : Prop := Claim7.holds Tryz.pinned (.plain (OpenSpec.upto fnDeskSaySpec)) fnDeskSayUptoCard

/-- THE SECOND FORM's CARD OF 'laws.FnExactDeskLine'. -/
def fnExactDeskLineUptoCard : Claim7 := { stood := { row := fnExactDeskLineUptoRow, standIns := [], harness := (true, "2db47e60802d48e2cdeb32c5325f74adef0a1a467a8e3f596ee6999b1ff566b9"), looks := true }, kinds := [], alts := [], laidByText := true, laidKinds := [.data, .data, .data, .sentinel, .sentinel, .mapped, .data], laidTests := true, laidLooks := .later }
def FnExactDeskLineUptoCardSaid : Prop := Claim7.holds Tryz.pinned (.plain (OpenSpec.upto fnExactDeskLineSpec)) fnExactDeskLineUptoCard
end Rows
end Go.Proofs.YtfnnhimopokpnaaGreatDoor
