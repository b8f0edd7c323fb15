/-
  DERIVED. GIVEN WITH THE SEED: THE CARDS: each row of YthkgjohhbdipcaaGreatDoorRows.lean that lists a variable, with what it lists TIED to the program's text (the seventh form; the later family's looks); each row that meets fmt, with fmt's text TOLD by the authors' own Lean function (tested against real Go, not proved from fmt's source: count such statements apart). THE CARD IS WHAT COUNTS. Prove the row's statement (the work); the ties are given (YthkgjohhbdipcaaGreatDoorTie.lean); close each card by the builder's one call (the guide's Derived/Test/ToyasCard.lean, 'card_holds'). Laid BY PROGRAM, IN A SANDBOX (cutbox-door.mjs). By AI agents, Wed Nov 11 2026. No macro, syntax, notation, axiom, sorry.
-/
import Derived.Test.YthkgjohhbdipcaaGreatDoorRows
import GoSem.ClaimSeven
namespace Go.Proofs.YthkgjohhbdipcaaGreatDoor
namespace Rows

/-- THE TIED CARD OF 'turnkeylaw.WorldRuns'. -/
def worldRunsCard : Claim7 := { stood := { row := worldRunsRow, standIns := [], harness := (true, "ad38ecf9bae2b15f9788eacdef88c6d2fd3b6fd8416f0a5d964fc840cb2a5cf8"), looks := true }, kinds := [], alts := [], laidByText := true, laidKinds := [.data, .data, .data, .data, .sentinel, .sentinel, .listed, .data, .pinned], laidTests := true, laidLooks := .later }
def WorldRunsCardSaid : Prop := Claim7.holds Tryz.pinned (.plain (OpenSpec.ofChange worldRunsSpec)) worldRunsCard

/-- THE TIED CARD OF 'turnkeylaw.WorldDoes'. -/
def worldDoesCard : Claim7 := { stood := { row := worldDoesRow, standIns := [], harness := (true, "ad38ecf9bae2b15f9788eacdef88c6d2fd3b6fd8416f0a5d964fc840cb2a5cf8"), looks := true }, kinds := [], alts := [], laidByText := true, laidKinds := [.data, .data, .data, .data, .sentinel, .sentinel, .listed, .data, .pinned], laidTests := true, laidLooks := .later }
def WorldDoesCardSaid : Prop := Claim7.holds Tryz.pinned (.plain (OpenSpec.ofChange worldDoesSpec)) worldDoesCard

/-- THE TIED CARD OF 'turnkeylaw.NoteSays'. -/
def noteSaysCard : Claim7 := { stood := { row := noteSaysRow, standIns := [], harness := (true, "ad38ecf9bae2b15f9788eacdef88c6d2fd3b6fd8416f0a5d964fc840cb2a5cf8"), looks := true }, kinds := [], alts := [], laidByText := true, laidKinds := [.data, .data, .data, .data, .sentinel, .sentinel, .listed, .data, .pinned], laidTests := true, laidLooks := .later }
def NoteSaysCardSaid : Prop := Claim7.holds Tryz.pinned (.plain (OpenSpec.ofChange noteSaysSpec)) noteSaysCard

/-- THE TIED CARD OF 'turnkeylaw.DiskSays'. -/
def diskSaysCard : Claim7 := { stood := { row := diskSaysRow, standIns := [], harness := (true, "ad38ecf9bae2b15f9788eacdef88c6d2fd3b6fd8416f0a5d964fc840cb2a5cf8"), looks := true }, kinds := [], alts := [], laidByText := true, laidKinds := [.data, .data, .data, .data, .sentinel, .sentinel, .listed, .data, .pinned], laidTests := true, laidLooks := .later }
def DiskSaysCardSaid : Prop := Claim7.holds Tryz.pinned (.plain (OpenSpec.ofChange diskSaysSpec)) diskSaysCard

/-- THE TIED CARD OF 'turnkeylaw.WorldParts'. -/
def worldPartsCard : Claim7 := { stood := { row := worldPartsRow, standIns := [], harness := (true, "ad38ecf9bae2b15f9788eacdef88c6d2fd3b6fd8416f0a5d964fc840cb2a5cf8"), looks := true }, kinds := [], alts := [], laidByText := true, laidKinds := [.data, .data, .data, .data, .sentinel, .sentinel, .pinned], laidTests := true, laidLooks := .later }
def WorldPartsCardSaid : Prop := Claim7.holds Tryz.pinned (.plain (OpenSpec.ofChange worldPartsSpec)) worldPartsCard

/-- THE TIED CARD OF 'turnkeylaw.WorldTight'. -/
def worldTightCard : Claim7 := { stood := { row := worldTightRow, standIns := [], harness := (true, "ad38ecf9bae2b15f9788eacdef88c6d2fd3b6fd8416f0a5d964fc840cb2a5cf8"), looks := true }, kinds := [], alts := [], laidByText := true, laidKinds := [.data, .data, .data, .data, .sentinel, .sentinel, .pinned], laidTests := true, laidLooks := .later }
def WorldTightCardSaid : Prop := Claim7.holds Tryz.pinned (.plain (OpenSpec.ofChange worldTightSpec)) worldTightCard

/-- THE TIED CARD OF 'turnkeylaw.WorldStands'. -/
def worldStandsCard : Claim7 := { stood := { row := worldStandsRow, standIns := [], harness := (true, "ad38ecf9bae2b15f9788eacdef88c6d2fd3b6fd8416f0a5d964fc840cb2a5cf8"), looks := true }, kinds := [], alts := [], laidByText := true, laidKinds := [.data, .data, .data, .data, .sentinel, .sentinel, .pinned], laidTests := true, laidLooks := .later }
def WorldStandsCardSaid : Prop := Claim7.holds Tryz.pinned (.plain (OpenSpec.ofChange worldStandsSpec)) worldStandsCard

/-- THE TIED CARD OF 'turnkeylaw.WorldTorn'. -/
def worldTornCard : Claim7 := { stood := { row := worldTornRow, standIns := [], harness := (true, "ad38ecf9bae2b15f9788eacdef88c6d2fd3b6fd8416f0a5d964fc840cb2a5cf8"), looks := true }, kinds := [], alts := [], laidByText := true, laidKinds := [.data, .data, .data, .data, .sentinel, .sentinel, .pinned], laidTests := true, laidLooks := .later }
def WorldTornCardSaid : Prop := Claim7.holds Tryz.pinned (.plain (OpenSpec.ofChange worldTornSpec)) worldTornCard

/-- THE SECOND FORM's CARD OF 'turnkeylaw.WorldRuns'. -/
def worldRunsUptoCard : Claim7 := { stood := { row := worldRunsUptoRow, standIns := [], harness := (true, "ad38ecf9bae2b15f9788eacdef88c6d2fd3b6fd8416f0a5d964fc840cb2a5cf8"), looks := true }, kinds := [], alts := [], laidByText := true, laidKinds := [.data, .data, .data, .data, .sentinel, .sentinel, .listed, .data, .pinned], laidTests := true, laidLooks := .later }
def WorldRunsUptoCardSaid : Prop := Claim7.holds Tryz.pinned (.plain (OpenSpec.upto worldRunsSpec)) worldRunsUptoCard

/-- THE SECOND FORM's CARD OF 'turnkeylaw.WorldDoes'. -/
def worldDoesUptoCard : Claim7 := { stood := { row := worldDoesUptoRow, standIns := [], harness := (true, "ad38ecf9bae2b15f9788eacdef88c6d2fd3b6fd8416f0a5d964fc840cb2a5cf8"), looks := true }, kinds := [], alts := [], laidByText := true, laidKinds := [.data, .data, .data, .data, .sentinel, .sentinel, .listed, .data, .pinned], laidTests := true, laidLooks := .later }
def WorldDoesUptoCardSaid : Prop := Claim7.holds Tryz.pinned (.plain (OpenSpec.upto worldDoesSpec)) worldDoesUptoCard

/-- THE SECOND FORM's CARD OF 'turnkeylaw.NoteSays'. -/
def noteSaysUptoCard : Claim7 := { stood := { row := noteSaysUptoRow, standIns := [], harness := (true, "ad38ecf9bae2b15f9788eacdef88c6d2fd3b6fd8416f0a5d964fc840cb2a5cf8"), looks := true }, kinds := [], alts := [], laidByText := true, laidKinds := [.data, .data, .data, .data, .sentinel, .sentinel, .listed, .data, .pinned], laidTests := true, laidLooks := .later }
def NoteSaysUptoCardSaid : Prop := Claim7.holds Tryz.pinned (.plain (OpenSpec.upto noteSaysSpec)) noteSaysUptoCard

/-- THE SECOND FORM's CARD OF 'turnkeylaw.DiskSays'. -/
def diskSaysUptoCard : Claim7 := { stood := { row := diskSaysUptoRow, standIns := [], harness := (true, "ad38ecf9bae2b15f9788eacdef88c6d2fd3b6fd8416f0a5d964fc840cb2a5cf8"), looks := true }, kinds := [], alts := [], laidByText := true, laidKinds := [.data, .data, .data, .data, .sentinel, .sentinel, .listed, .data, .pinned], laidTests := true, laidLooks := .later }
def DiskSaysUptoCardSaid : Prop := Claim7.holds Tryz.pinned (.plain (OpenSpec.upto diskSaysSpec)) diskSaysUptoCard

/-- THE SECOND FORM's CARD OF 'turnkeylaw.WorldParts'. -/
def worldPartsUptoCard : Claim7 := { stood := { row := worldPartsUptoRow, standIns := [], harness := (true, "ad38ecf9bae2b15f9788eacdef88c6d2fd3b6fd8416f0a5d964fc840cb2a5cf8"), looks := true }, kinds := [], alts := [], laidByText := true, laidKinds := [.data, .data, .data, .data, .sentinel, .sentinel, .pinned], laidTests := true, laidLooks := .later }
def WorldPartsUptoCardSaid : Prop := Claim7.holds Tryz.pinned (.plain (OpenSpec.upto worldPartsSpec)) worldPartsUptoCard

/-- THE SECOND FORM's CARD OF 'turnkeylaw.WorldTight'. -/
def worldTightUptoCard : Claim7 := { stood := { row := worldTightUptoRow, standIns := [], harness := (true, "ad38ecf9bae2b15f9788eacdef88c6d2fd3b6fd8416f0a5d964fc840cb2a5cf8"), looks := true }, kinds := [], alts := [], laidByText := true, laidKinds := [.data, .data, .data, .data, .sentinel, .sentinel, .pinned], laidTests := true, laidLooks := .later }
def WorldTightUptoCardSaid : Prop := Claim7.holds Tryz.pinned (.plain (OpenSpec.upto worldTightSpec)) worldTightUptoCard

/-- THE SECOND FORM's CARD OF 'turnkeylaw.WorldStands'. -/
def worldStandsUptoCard : Claim7 := { stood := { row := worldStandsUptoRow, standIns := [], harness := (true, "ad38ecf9bae2b15f9788eacdef88c6d2fd3b6fd8416f0a5d964fc840cb2a5cf8"), looks := true }, kinds := [], alts := [], laidByText := true, laidKinds := [.data, .data, .data, .data, .sentinel, .sentinel, .pinned], laidTests := true, laidLooks := .later }
def WorldStandsUptoCardSaid : Prop := Claim7.holds Tryz.pinned (.plain (OpenSpec.upto worldStandsSpec)) worldStandsUptoCard

/-- THE SECOND FORM's CARD OF 'turnkeylaw.WorldTorn'. -/
def worldTornUptoCard : Claim7 := { stood := { row := worldTornUptoRow, standIns := [], harness := (true, "ad38ecf9bae2b15f9788eacdef88c6d2fd3b6fd8416f0a5d964fc840cb2a5cf8"), looks := true }, kinds := [], alts := [], laidByText := true, laidKinds := [.data, .data, .data, .data, .sentinel, .sentinel, .pinned], laidTests := true, laidLooks := .later }
def WorldTornUptoCardSaid : Prop := Claim7.holds Tryz.pinned (.plain (OpenSpec.upto worldTornSpec)) worldTornUptoCard
end Rows
end Go.Proofs.YthkgjohhbdipcaaGreatDoor
