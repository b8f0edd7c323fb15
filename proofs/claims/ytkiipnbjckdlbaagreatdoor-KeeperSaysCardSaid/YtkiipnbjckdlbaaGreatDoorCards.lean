/-
  DERIVED. GIVEN WITH THE SEED: THE CARDS: each row of YtkiipnbjckdlbaaGreatDoorRows.lean that lists a variable, with what it lists TIED to the program's text (the seventh form; the later family's looks); each row that meets fmt, with fmt's text TOLD by the authors' own Lean function (tested against real Go, not proved from fmt's source: count such statements apart). THE CARD IS WHAT COUNTS. Prove the row's statement (the work); the ties are given (YtkiipnbjckdlbaaGreatDoorTie.lean); close each card by the builder's one call (the guide's Derived/Test/ToyasCard.lean, 'card_holds'). Laid BY PROGRAM, IN A SANDBOX (cutbox-door.mjs). By AI agents, Wed Nov 11 2026. No macro, syntax, notation, axiom, sorry.
-/
import Derived.Test.YtkiipnbjckdlbaaGreatDoorRows
import GoSem.ClaimSeven
namespace Go.Proofs.YtkiipnbjckdlbaaGreatDoor
namespace Rows

/-- THE TIED CARD OF 'turnkeylaw.ChainOrder'. -/
def chainOrderCard : Claim7 := { stood := { row := chainOrderRow, standIns := [], harness := (true, "1659313f4e1e59a73c1ec320c4693008f5ff9e0ccd20a6a77ea4cda1f9638af3"), looks := true }, kinds := [], alts := [], laidByText := true, laidKinds := [.data, .data, .data, .data, .sentinel, .sentinel, .pinned], laidTests := true, laidLooks := .later }
def ChainOrderCardSaid : Prop := Claim7.holds Tryz.pinned (.plain (OpenSpec.ofChange chainOrderSpec)) chainOrderCard

/-- THE TIED CARD OF 'turnkeylaw.ChainSays'. -/
def chainSaysCard : Claim7 := { stood := { row := chainSaysRow, standIns := [], harness := (true, "1659313f4e1e59a73c1ec320c4693008f5ff9e0ccd20a6a77ea4cda1f9638af3"), looks := true }, kinds := [], alts := [], laidByText := true, laidKinds := [.data, .data, .data, .data, .sentinel, .sentinel, .pinned], laidTests := true, laidLooks := .later }
def ChainSaysCardSaid : Prop := Claim7.holds Tryz.pinned (.plain (OpenSpec.ofChange chainSaysSpec)) chainSaysCard

/-- THE TIED CARD OF 'turnkeylaw.ChainTight'. -/
def chainTightCard : Claim7 := { stood := { row := chainTightRow, standIns := [], harness := (true, "1659313f4e1e59a73c1ec320c4693008f5ff9e0ccd20a6a77ea4cda1f9638af3"), looks := true }, kinds := [], alts := [], laidByText := true, laidKinds := [.data, .data, .data, .data, .sentinel, .sentinel, .pinned], laidTests := true, laidLooks := .later }
def ChainTightCardSaid : Prop := Claim7.holds Tryz.pinned (.plain (OpenSpec.ofChange chainTightSpec)) chainTightCard

/-- THE TIED CARD OF 'turnkeylaw.KeeperSays'. -/
def keeperSaysCard : Claim7 := { stood := { row := keeperSaysRow, standIns := [], harness := (true, "1659313f4e1e59a73c1ec320c4693008f5ff9e0ccd20a6a77ea4cda1f9638af3"), looks := true }, kinds := [], alts := [], laidByText := true, laidKinds := [.data, .data, .data, .data, .sentinel, .sentinel, .pinned], laidTests := true, laidLooks := .later }
def KeeperSaysCardSaid : Prop := Claim7.holds Tryz.pinned (.plain (OpenSpec.ofChange keeperSaysSpec)) keeperSaysCard

/-- THE TIED CARD OF 'turnkeylaw.KeeperReplays'. -/
def keeperReplaysCard : Claim7 := { stood := { row := keeperReplaysRow, standIns := [], harness := (true, "1659313f4e1e59a73c1ec320c4693008f5ff9e0ccd20a6a77ea4cda1f9638af3"), looks := true }, kinds := [], alts := [], laidByText := true, laidKinds := [.data, .data, .data, .data, .sentinel, .sentinel, .pinned], laidTests := true, laidLooks := .later }
def KeeperReplaysCardSaid : Prop := Claim7.holds Tryz.pinned (.plain (OpenSpec.ofChange keeperReplaysSpec)) keeperReplaysCard

/-- THE TIED CARD OF 'turnkeylaw.KeeperMeans'. -/
def keeperMeansCard : Claim7 := { stood := { row := keeperMeansRow, standIns := [], harness := (true, "1659313f4e1e59a73c1ec320c4693008f5ff9e0ccd20a6a77ea4cda1f9638af3"), looks := true }, kinds := [], alts := [], laidByText := true, laidKinds := [.data, .data, .data, .data, .sentinel, .sentinel, .pinned], laidTests := true, laidLooks := .later }
def KeeperMeansCardSaid : Prop := Claim7.holds Tryz.pinned (.plain (OpenSpec.ofChange keeperMeansSpec)) keeperMeansCard

/-- THE TIED CARD OF 'turnkeylaw.KeeperTight'. -/
def keeperTightCard : Claim7 := { stood := { row := keeperTightRow, standIns := [], harness := (true, "1659313f4e1e59a73c1ec320c4693008f5ff9e0ccd20a6a77ea4cda1f9638af3"), looks := true }, kinds := [], alts := [], laidByText := true, laidKinds := [.data, .data, .data, .data, .sentinel, .sentinel, .pinned], laidTests := true, laidLooks := .later }
def KeeperTightCardSaid : Prop := Claim7.holds Tryz.pinned (.plain (OpenSpec.ofChange keeperTightSpec)) keeperTightCard

/-- THE TIED CARD OF 'turnkeylaw.KeeperFork'. -/
def keeperForkCard : Claim7 := { stood := { row := keeperForkRow, standIns := [], harness := (true, "1659313f4e1e59a73c1ec320c4693008f5ff9e0ccd20a6a77ea4cda1f9638af3"), looks := true }, kinds := [], alts := [], laidByText := true, laidKinds := [.data, .data, .data, .data, .sentinel, .sentinel, .pinned], laidTests := true, laidLooks := .later }
def KeeperForkCardSaid : Prop := Claim7.holds Tryz.pinned (.plain (OpenSpec.ofChange keeperForkSpec)) keeperForkCard

/-- THE SECOND FORM's CARD OF 'turnkeylaw.ChainOrder'. -/
def chainOrderUptoCard : Claim7 := { stood := { row := chainOrderUptoRow, standIns := [], harness := (true, "1659313f4e1e59a73c1ec320c4693008f5ff9e0ccd20a6a77ea4cda1f9638af3"), looks := true }, kinds := [], alts := [], laidByText := true, laidKinds := [.data, .data, .data, .data, .sentinel, .sentinel, .pinned], laidTests := true, laidLooks := .later }
def ChainOrderUptoCardSaid : Prop := Claim7.holds Tryz.pinned (.plain (OpenSpec.upto chainOrderSpec)) chainOrderUptoCard

/-- THE SECOND FORM's CARD OF 'turnkeylaw.ChainSays'. -/
def chainSaysUptoCard : Claim7 := { stood := { row := chainSaysUptoRow, standIns := [], harness := (true, "1659313f4e1e59a73c1ec320c4693008f5ff9e0ccd20a6a77ea4cda1f9638af3"), looks := true }, kinds := [], alts := [], laidByText := true, laidKinds := [.data, .data, .data, .data, .sentinel, .sentinel, .pinned], laidTests := true, laidLooks := .later }
def ChainSaysUptoCardSaid : Prop := Claim7.holds Tryz.pinned (.plain (OpenSpec.upto chainSaysSpec)) chainSaysUptoCard

/-- THE SECOND FORM's CARD OF 'turnkeylaw.ChainTight'. -/
def chainTightUptoCard : Claim7 := { stood := { row := chainTightUptoRow, standIns := [], harness := (true, "1659313f4e1e59a73c1ec320c4693008f5ff9e0ccd20a6a77ea4cda1f9638af3"), looks := true }, kinds := [], alts := [], laidByText := true, laidKinds := [.data, .data, .data, .data, .sentinel, .sentinel, .pinned], laidTests := true, laidLooks := .later }
def ChainTightUptoCardSaid : Prop := Claim7.holds Tryz.pinned (.plain (OpenSpec.upto chainTightSpec)) chainTightUptoCard

/-- THE SECOND FORM's CARD OF 'turnkeylaw.KeeperSays'. -/
def keeperSaysUptoCard : Claim7 := { stood := { row := keeperSaysUptoRow, standIns := [], harness := (true, "1659313f4e1e59a73c1ec320c4693008f5ff9e0ccd20a6a77ea4cda1f9638af3"), looks := true }, kinds := [], alts := [], laidByText := true, laidKinds := [.data, .data, .data, .data, .sentinel, .sentinel, .pinned], laidTests := true, laidLooks := .later }
def KeeperSaysUptoCardSaid : Prop := Claim7.holds Tryz.pinned (.plain (OpenSpec.upto keeperSaysSpec)) keeperSaysUptoCard

/-- THE SECOND FORM's CARD OF 'turnkeylaw.KeeperReplays'. -/
def keeperReplaysUptoCard : Claim7 := { stood := { row := keeperReplaysUptoRow, standIns := [], harness := (true, "1659313f4e1e59a73c1ec320c4693008f5ff9e0ccd20a6a77ea4cda1f9638af3"), looks := true }, kinds := [], alts := [], laidByText := true, laidKinds := [.data, .data, .data, .data, .sentinel, .sentinel, .pinned], laidTests := true, laidLooks := .later }
def KeeperReplaysUptoCardSaid : Prop := Claim7.holds Tryz.pinned (.plain (OpenSpec.upto keeperReplaysSpec)) keeperReplaysUptoCard

/-- THE SECOND FORM's CARD OF 'turnkeylaw.KeeperMeans'. -/
def keeperMeansUptoCard : Claim7 := { stood := { row := keeperMeansUptoRow, standIns := [], harness := (true, "1659313f4e1e59a73c1ec320c4693008f5ff9e0ccd20a6a77ea4cda1f9638af3"), looks := true }, kinds := [], alts := [], laidByText := true, laidKinds := [.data, .data, .data, .data, .sentinel, .sentinel, .pinned], laidTests := true, laidLooks := .later }
def KeeperMeansUptoCardSaid : Prop := Claim7.holds Tryz.pinned (.plain (OpenSpec.upto keeperMeansSpec)) keeperMeansUptoCard

/-- THE SECOND FORM's CARD OF 'turnkeylaw.KeeperTight'. -/
def keeperTightUptoCard : Claim7 := { stood := { row := keeperTightUptoRow, standIns := [], harness := (true, "1659313f4e1e59a73c1ec320c4693008f5ff9e0ccd20a6a77ea4cda1f9638af3"), looks := true }, kinds := [], alts := [], laidByText := true, laidKinds := [.data, .data, .data, .data, .sentinel, .sentinel, .pinned], laidTests := true, laidLooks := .later }
def KeeperTightUptoCardSaid : Prop := Claim7.holds Tryz.pinned (.plain (OpenSpec.upto keeperTightSpec)) keeperTightUptoCard

/-- THE SECOND FORM's CARD OF 'turnkeylaw.KeeperFork'. -/
def keeperForkUptoCard : Claim7 := { stood := { row := keeperForkUptoRow, standIns := [], harness := (true, "1659313f4e1e59a73c1ec320c4693008f5ff9e0ccd20a6a77ea4cda1f9638af3"), looks := true }, kinds := [], alts := [], laidByText := true, laidKinds := [.data, .data, .data, .data, .sentinel, .sentinel, .pinned], laidTests := true, laidLooks := .later }
def KeeperForkUptoCardSaid : Prop := Claim7.holds Tryz.pinned (.plain (OpenSpec.upto keeperForkSpec)) keeperForkUptoCard
end Rows
end Go.Proofs.YtkiipnbjckdlbaaGreatDoor
