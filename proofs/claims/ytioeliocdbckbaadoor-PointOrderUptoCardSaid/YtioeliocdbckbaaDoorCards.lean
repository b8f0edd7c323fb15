/-
  DERIVED. GIVEN WITH THE SEED: THE CARDS: each row of YtioeliocdbckbaaDoorRows.lean that lists a variable, with what it lists TIED to the program's text (the seventh form; the later family's looks); each row that meets fmt, with fmt's text TOLD by the authors' own Lean function (tested against real Go, not proved from fmt's source: count such statements apart). THE CARD IS WHAT COUNTS. Prove the row's statement (the work); the ties are given (YtioeliocdbckbaaDoorTie.lean); close each card by the builder's one call (the guide's Derived/Test/ToyasCard.lean, 'card_holds'). Laid BY PROGRAM, IN A SANDBOX (cutbox-door.mjs). By AI agents, Wed Nov 11 2026. No macro, syntax, notation, axiom, sorry.
-/
import Derived.Test.YtioeliocdbckbaaDoorRows
import GoSem.ClaimSeven
namespace Go.Proofs.YtioeliocdbckbaaDoor
namespace Rows

/-- THE TIED CARD OF 'turnkeylaw.PointSays'. -/
def pointSaysCard : Claim7 := { stood := { row := pointSaysRow, standIns := [], harness := (true, "4b5f0b6eac7ce1bf5a8fe4895b9d2dd0c1059f794ae0c664dfa23d75db795c8d"), looks := true }, kinds := [], alts := [], laidByText := true, laidKinds := [.data, .data, .data, .data, .sentinel, .sentinel, .pinned], laidTests := true, laidLooks := .later }
def PointSaysCardSaid : Prop := Claim7.holds Tryd.pinned (.plain (OpenSpec.ofChange pointSaysSpec)) pointSaysCard

/-- THE TIED CARD OF 'turnkeylaw.OrderAll'. -/
def orderAllCard : Claim7 := { stood := { row := orderAllRow, standIns := [], harness := (true, "4b5f0b6eac7ce1bf5a8fe4895b9d2dd0c1059f794ae0c664dfa23d75db795c8d"), looks := true }, kinds := [], alts := [], laidByText := true, laidKinds := [.data, .data, .data, .data, .sentinel, .sentinel, .pinned], laidTests := true, laidLooks := .later }
def OrderAllCardSaid : Prop := Claim7.holds Tryd.pinned (.plain (OpenSpec.ofChange orderAllSpec)) orderAllCard

/-- THE TIED CARD OF 'turnkeylaw.OrderChain'. -/
def orderChainCard : Claim7 := { stood := { row := orderChainRow, standIns := [], harness := (true, "4b5f0b6eac7ce1bf5a8fe4895b9d2dd0c1059f794ae0c664dfa23d75db795c8d"), looks := true }, kinds := [], alts := [], laidByText := true, laidKinds := [.data, .data, .data, .data, .sentinel, .sentinel, .pinned], laidTests := true, laidLooks := .later }
def OrderChainCardSaid : Prop := Claim7.holds Tryd.pinned (.plain (OpenSpec.ofChange orderChainSpec)) orderChainCard

/-- THE TIED CARD OF 'turnkeylaw.PointOrder'. -/
def pointOrderCard : Claim7 := { stood := { row := pointOrderRow, standIns := [], harness := (true, "4b5f0b6eac7ce1bf5a8fe4895b9d2dd0c1059f794ae0c664dfa23d75db795c8d"), looks := true }, kinds := [], alts := [], laidByText := true, laidKinds := [.data, .data, .data, .data, .sentinel, .sentinel, .pinned], laidTests := true, laidLooks := .later }
def PointOrderCardSaid : Prop := Claim7.holds Tryd.pinned (.plain (OpenSpec.ofChange pointOrderSpec)) pointOrderCard

/-- THE SECOND FORM's CARD OF 'turnkeylaw.PointSays'. -/
def pointSaysUptoCard : Claim7 := { stood := { row := pointSaysUptoRow, standIns := [], harness := (true, "4b5f0b6eac7ce1bf5a8fe4895b9d2dd0c1059f794ae0c664dfa23d75db795c8d"), looks := true }, kinds := [], alts := [], laidByText := true, laidKinds := [.data, .data, .data, .data, .sentinel, .sentinel, .pinned], laidTests := true, laidLooks := .later }
def PointSaysUptoCardSaid : Prop := Claim7.holds Tryd.pinned (.plain (OpenSpec.upto pointSaysSpec)) pointSaysUptoCard

/-- THE SECOND FORM's CARD OF 'turnkeylaw.OrderAll'. -/
def orderAllUptoCard : Claim7 := { stood := { row := orderAllUptoRow, standIns := [], harness := (true, "4b5f0b6eac7ce1bf5a8fe4895b9d2dd0c1059f794ae0c664dfa23d75db795c8d"), looks := true }, kinds := [], alts := [], laidByText := true, laidKinds := [.data, .data, .data, .data, .sentinel, .sentinel, .pinned], laidTests := true, laidLooks := .later }
def OrderAllUptoCardSaid : Prop := Claim7.holds Tryd.pinned (.plain (OpenSpec.upto orderAllSpec)) orderAllUptoCard

/-- THE SECOND FORM's CARD OF 'turnkeylaw.OrderChain'. -/
def orderChainUptoCard : Claim7 := { stood := { row := orderChainUptoRow, standIns := [], harness := (true, "4b5f0b6eac7ce1bf5a8fe4895b9d2dd0c1059f794ae0c664dfa23d75db795c8d"), looks := true }, kinds := [], alts := [], laidByText := true, laidKinds := [.data, .data, .data, .data, .sentinel, .sentinel, .pinned], laidTests := true, laidLooks := .later }
def OrderChainUptoCardSaid : Prop := Claim7.holds Tryd.pinned (.plain (OpenSpec.upto orderChainSpec)) orderChainUptoCard

/-- THE SECOND FORM's CARD OF 'turnkeylaw.PointOrder'. -/
def pointOrderUptoCard : Claim7 := { stood := { row := pointOrderUptoRow, standIns := [], harness := (true, "4b5f0b6eac7ce1bf5a8fe4895b9d2dd0c1059f794ae0c664dfa23d75db795c8d"), looks := true }, kinds := [], alts := [], laidByText := true, laidKinds := [.data, .data, .data, .data, .sentinel, .sentinel, .pinned], laidTests := true, laidLooks := .later }
def PointOrderUptoCardSaid : Prop := Claim7.holds Tryd.pinned (.plain (OpenSpec.upto pointOrderSpec)) pointOrderUptoCard
end Rows
end Go.Proofs.YtioeliocdbckbaaDoor
