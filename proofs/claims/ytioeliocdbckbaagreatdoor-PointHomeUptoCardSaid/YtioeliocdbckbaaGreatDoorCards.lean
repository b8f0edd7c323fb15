/-
  DERIVED. GIVEN WITH THE SEED: THE CARDS: each row of YtioeliocdbckbaaGreatDoorRows.lean that lists a variable, with what it lists TIED to the program's text (the seventh form; the later family's looks); each row that meets fmt, with fmt's text TOLD by the authors' own Lean function (tested against real Go, not proved from fmt's source: count such statements apart). THE CARD IS WHAT COUNTS. Prove the row's statement (the work); the ties are given (YtioeliocdbckbaaGreatDoorTie.lean); close each card by the builder's one call (the guide's Derived/Test/ToyasCard.lean, 'card_holds'). Laid BY PROGRAM, IN A SANDBOX (cutbox-door.mjs). By AI agents, Wed Nov 11 2026. No macro, syntax, notation, axiom, sorry.
-/
import Derived.Test.YtioeliocdbckbaaGreatDoorRows
import GoSem.ClaimSeven
namespace Go.Proofs.YtioeliocdbckbaaGreatDoor
namespace Rows

/-- THE TIED CARD OF 'turnkeylaw.OrderSays'. -/
def orderSaysCard : Claim7 := { stood := { row := orderSaysRow, standIns := [], harness := (true, "0b3cda6a4a30b053a0ad31c473bb0b584f1287b08e75e3e889086724ff20a8ab"), looks := true }, kinds := [], alts := [], laidByText := true, laidKinds := [.data, .data, .data, .data, .sentinel, .sentinel, .pinned], laidTests := true, laidLooks := .later }
def OrderSaysCardSaid : Prop := Claim7.holds Tryz.pinned (.plain (OpenSpec.ofChange orderSaysSpec)) orderSaysCard

/-- THE TIED CARD OF 'turnkeylaw.PointHome'. -/
def pointHomeCard : Claim7 := { stood := { row := pointHomeRow, standIns := [], harness := (true, "0b3cda6a4a30b053a0ad31c473bb0b584f1287b08e75e3e889086724ff20a8ab"), looks := true }, kinds := [], alts := [], laidByText := true, laidKinds := [.data, .data, .data, .data, .sentinel, .sentinel, .pinned], laidTests := true, laidLooks := .later }
def PointHomeCardSaid : Prop := Claim7.holds Tryz.pinned (.plain (OpenSpec.ofChange pointHomeSpec)) pointHomeCard

/-- THE TIED CARD OF 'turnkeylaw.ChainDelta'. -/
def chainDeltaCard : Claim7 := { stood := { row := chainDeltaRow, standIns := [], harness := (true, "0b3cda6a4a30b053a0ad31c473bb0b584f1287b08e75e3e889086724ff20a8ab"), looks := true }, kinds := [], alts := [], laidByText := true, laidKinds := [.data, .data, .data, .data, .sentinel, .sentinel, .pinned], laidTests := true, laidLooks := .later }
def ChainDeltaCardSaid : Prop := Claim7.holds Tryz.pinned (.plain (OpenSpec.ofChange chainDeltaSpec)) chainDeltaCard

/-- THE TIED CARD OF 'turnkeylaw.MeetMeans'. -/
def meetMeansCard : Claim7 := { stood := { row := meetMeansRow, standIns := [], harness := (true, "0b3cda6a4a30b053a0ad31c473bb0b584f1287b08e75e3e889086724ff20a8ab"), looks := true }, kinds := [], alts := [], laidByText := true, laidKinds := [.data, .data, .data, .data, .sentinel, .sentinel, .listed, .data, .pinned], laidTests := true, laidLooks := .later }
def MeetMeansCardSaid : Prop := Claim7.holds Tryz.pinned (.plain (OpenSpec.ofChange meetMeansSpec)) meetMeansCard

/-- THE TIED CARD OF 'turnkeylaw.MeetTwice'. -/
def meetTwiceCard : Claim7 := { stood := { row := meetTwiceRow, standIns := [], harness := (true, "0b3cda6a4a30b053a0ad31c473bb0b584f1287b08e75e3e889086724ff20a8ab"), looks := true }, kinds := [], alts := [], laidByText := true, laidKinds := [.data, .data, .data, .data, .sentinel, .sentinel, .listed, .data, .pinned], laidTests := true, laidLooks := .later }
def MeetTwiceCardSaid : Prop := Claim7.holds Tryz.pinned (.plain (OpenSpec.ofChange meetTwiceSpec)) meetTwiceCard

/-- THE TIED CARD OF 'turnkeylaw.MeetSays'. -/
def meetSaysCard : Claim7 := { stood := { row := meetSaysRow, standIns := [], harness := (true, "0b3cda6a4a30b053a0ad31c473bb0b584f1287b08e75e3e889086724ff20a8ab"), looks := true }, kinds := [], alts := [], laidByText := true, laidKinds := [.data, .data, .data, .data, .sentinel, .sentinel, .listed, .data, .pinned], laidTests := true, laidLooks := .later }
def MeetSaysCardSaid : Prop := Claim7.holds Tryz.pinned (.plain (OpenSpec.ofChange meetSaysSpec)) meetSaysCard

/-- THE TIED CARD OF 'turnkeylaw.MeetOrder'. -/
def meetOrderCard : Claim7 := { stood := { row := meetOrderRow, standIns := [], harness := (true, "0b3cda6a4a30b053a0ad31c473bb0b584f1287b08e75e3e889086724ff20a8ab"), looks := true }, kinds := [], alts := [], laidByText := true, laidKinds := [.data, .data, .data, .data, .sentinel, .sentinel, .listed, .data, .pinned], laidTests := true, laidLooks := .later }
def MeetOrderCardSaid : Prop := Claim7.holds Tryz.pinned (.plain (OpenSpec.ofChange meetOrderSpec)) meetOrderCard

/-- THE TIED CARD OF 'turnkeylaw.MeetShort'. -/
def meetShortCard : Claim7 := { stood := { row := meetShortRow, standIns := [], harness := (true, "0b3cda6a4a30b053a0ad31c473bb0b584f1287b08e75e3e889086724ff20a8ab"), looks := true }, kinds := [], alts := [], laidByText := true, laidKinds := [.data, .data, .data, .data, .sentinel, .sentinel, .listed, .data, .pinned], laidTests := true, laidLooks := .later }
def MeetShortCardSaid : Prop := Claim7.holds Tryz.pinned (.plain (OpenSpec.ofChange meetShortSpec)) meetShortCard

/-- THE SECOND FORM's CARD OF 'turnkeylaw.OrderSays'. -/
def orderSaysUptoCard : Claim7 := { stood := { row := orderSaysUptoRow, standIns := [], harness := (true, "0b3cda6a4a30b053a0ad31c473bb0b584f1287b08e75e3e889086724ff20a8ab"), looks := true }, kinds := [], alts := [], laidByText := true, laidKinds := [.data, .data, .data, .data, .sentinel, .sentinel, .pinned], laidTests := true, laidLooks := .later }
def OrderSaysUptoCardSaid : Prop := Claim7.holds Tryz.pinned (.plain (OpenSpec.upto orderSaysSpec)) orderSaysUptoCard

/-- THE SECOND FORM's CARD OF 'turnkeylaw.PointHome'. -/
def pointHomeUptoCard : Claim7 := { stood := { row := pointHomeUptoRow, standIns := [], harness := (true, "0b3cda6a4a30b053a0ad31c473bb0b584f1287b08e75e3e889086724ff20a8ab"), looks := true }, kinds := [], alts := [], laidByText := true, laidKinds := [.data, .data, .data, .data, .sentinel, .sentinel, .pinned], laidTests := true, laidLooks := .later }
def PointHomeUptoCardSaid : Prop := Claim7.holds Tryz.pinned (.plain (OpenSpec.upto pointHomeSpec)) pointHomeUptoCard

/-- THE SECOND FORM's CARD OF 'turnkeylaw.ChainDelta'. -/
def chainDeltaUptoCard : Claim7 := { stood := { row := chainDeltaUptoRow, standIns := [], harness := (true, "0b3cda6a4a30b053a0ad31c473bb0b584f1287b08e75e3e889086724ff20a8ab"), looks := true }, kinds := [], alts := [], laidByText := true, laidKinds := [.data, .data, .data, .data, .sentinel, .sentinel, .pinned], laidTests := true, laidLooks := .later }
def ChainDeltaUptoCardSaid : Prop := Claim7.holds Tryz.pinned (.plain (OpenSpec.upto chainDeltaSpec)) chainDeltaUptoCard

/-- THE SECOND FORM's CARD OF 'turnkeylaw.MeetMeans'. -/
def meetMeansUptoCard : Claim7 := { stood := { row := meetMeansUptoRow, standIns := [], harness := (true, "0b3cda6a4a30b053a0ad31c473bb0b584f1287b08e75e3e889086724ff20a8ab"), looks := true }, kinds := [], alts := [], laidByText := true, laidKinds := [.data, .data, .data, .data, .sentinel, .sentinel, .listed, .data, .pinned], laidTests := true, laidLooks := .later }
def MeetMeansUptoCardSaid : Prop := Claim7.holds Tryz.pinned (.plain (OpenSpec.upto meetMeansSpec)) meetMeansUptoCard

/-- THE SECOND FORM's CARD OF 'turnkeylaw.MeetTwice'. -/
def meetTwiceUptoCard : Claim7 := { stood := { row := meetTwiceUptoRow, standIns := [], harness := (true, "0b3cda6a4a30b053a0ad31c473bb0b584f1287b08e75e3e889086724ff20a8ab"), looks := true }, kinds := [], alts := [], laidByText := true, laidKinds := [.data, .data, .data, .data, .sentinel, .sentinel, .listed, .data, .pinned], laidTests := true, laidLooks := .later }
def MeetTwiceUptoCardSaid : Prop := Claim7.holds Tryz.pinned (.plain (OpenSpec.upto meetTwiceSpec)) meetTwiceUptoCard

/-- THE SECOND FORM's CARD OF 'turnkeylaw.MeetSays'. -/
def meetSaysUptoCard : Claim7 := { stood := { row := meetSaysUptoRow, standIns := [], harness := (true, "0b3cda6a4a30b053a0ad31c473bb0b584f1287b08e75e3e889086724ff20a8ab"), looks := true }, kinds := [], alts := [], laidByText := true, laidKinds := [.data, .data, .data, .data, .sentinel, .sentinel, .listed, .data, .pinned], laidTests := true, laidLooks := .later }
def MeetSaysUptoCardSaid : Prop := Claim7.holds Tryz.pinned (.plain (OpenSpec.upto meetSaysSpec)) meetSaysUptoCard

/-- THE SECOND FORM's CARD OF 'turnkeylaw.MeetOrder'. -/
def meetOrderUptoCard : Claim7 := { stood := { row := meetOrderUptoRow, standIns := [], harness := (true, "0b3cda6a4a30b053a0ad31c473bb0b584f1287b08e75e3e889086724ff20a8ab"), looks := true }, kinds := [], alts := [], laidByText := true, laidKinds := [.data, .data, .data, .data, .sentinel, .sentinel, .listed, .data, .pinned], laidTests := true, laidLooks := .later }
def MeetOrderUptoCardSaid : Prop := Claim7.holds Tryz.pinned (.plain (OpenSpec.upto meetOrderSpec)) meetOrderUptoCard

/-- THE SECOND FORM's CARD OF 'turnkeylaw.MeetShort'. -/
def meetShortUptoCard : Claim7 := { stood := { row := meetShortUptoRow, standIns := [], harness := (true, "0b3cda6a4a30b053a0ad31c473bb0b584f1287b08e75e3e889086724ff20a8ab"), looks := true }, kinds := [], alts := [], laidByText := true, laidKinds := [.data, .data, .data, .data, .sentinel, .sentinel, .listed, .data, .pinned], laidTests := true, laidLooks := .later }
def MeetShortUptoCardSaid : Prop := Claim7.holds Tryz.pinned (.plain (OpenSpec.upto meetShortSpec)) meetShortUptoCard
end Rows
end Go.Proofs.YtioeliocdbckbaaGreatDoor
