/-
  DERIVED. GIVEN WITH THE SEED: THE CARDS: each row of YtlhhomimcnjnfaaDoorRows.lean that lists a variable, with what it lists TIED to the program's text (the seventh form; the later family's looks); each row that meets fmt, with fmt's text TOLD by the authors' own Lean function (tested against real Go, not proved from fmt's source: count such statements apart). THE CARD IS WHAT COUNTS. Prove the row's statement (the work); the ties are given (YtlhhomimcnjnfaaDoorTie.lean); close each card by the builder's one call (the guide's Derived/Test/ToyasCard.lean, 'card_holds'). Laid BY PROGRAM, IN A SANDBOX (cutbox-door.mjs). By AI agents, Wed Nov 11 2026. No macro, syntax, notation, axiom, sorry.
-/
import Derived.Test.YtlhhomimcnjnfaaDoorRows
import GoSem.ClaimSeven
namespace Go.Proofs.YtlhhomimcnjnfaaDoor
namespace Rows

/-- THE TIED CARD OF 'turnkeylaw.PolicySays'. -/
def policySaysCard : Claim7 := { stood := { row := policySaysRow, standIns := [], harness := (true, "43cbb7745b7ba41be76df06a9786612c5eb9630e1f60daf3bca8e8904be84e8b"), looks := true }, kinds := [], alts := [], laidByText := true, laidKinds := [.data, .data, .data, .data, .sentinel, .sentinel, .pinned], laidTests := true, laidLooks := .later }
def PolicySaysCardSaid : Prop := Claim7.holds Tryd.pinned (.plain (OpenSpec.ofChange policySaysSpec)) policySaysCard

/-- THE TIED CARD OF 'turnkeylaw.PolicyFirst'. -/
def policyFirstCard : Claim7 := { stood := { row := policyFirstRow, standIns := [], harness := (true, "43cbb7745b7ba41be76df06a9786612c5eb9630e1f60daf3bca8e8904be84e8b"), looks := true }, kinds := [], alts := [], laidByText := true, laidKinds := [.data, .data, .data, .data, .sentinel, .sentinel, .pinned], laidTests := true, laidLooks := .later }
def PolicyFirstCardSaid : Prop := Claim7.holds Tryd.pinned (.plain (OpenSpec.ofChange policyFirstSpec)) policyFirstCard

/-- THE TIED CARD OF 'turnkeylaw.CompileSays'. -/
def compileSaysCard : Claim7 := { stood := { row := compileSaysRow, standIns := [], harness := (true, "43cbb7745b7ba41be76df06a9786612c5eb9630e1f60daf3bca8e8904be84e8b"), looks := true }, kinds := [], alts := [], laidByText := true, laidKinds := [.data, .data, .data, .data, .sentinel, .sentinel, .pinned], laidTests := true, laidLooks := .later }
def CompileSaysCardSaid : Prop := Claim7.holds Tryd.pinned (.plain (OpenSpec.ofChange compileSaysSpec)) compileSaysCard

/-- THE TIED CARD OF 'turnkeylaw.CompileMeans'. -/
def compileMeansCard : Claim7 := { stood := { row := compileMeansRow, standIns := [], harness := (true, "43cbb7745b7ba41be76df06a9786612c5eb9630e1f60daf3bca8e8904be84e8b"), looks := true }, kinds := [], alts := [], laidByText := true, laidKinds := [.data, .data, .data, .data, .sentinel, .sentinel, .pinned], laidTests := true, laidLooks := .later }
def CompileMeansCardSaid : Prop := Claim7.holds Tryd.pinned (.plain (OpenSpec.ofChange compileMeansSpec)) compileMeansCard

/-- THE TIED CARD OF 'turnkeylaw.TextBack'. -/
def textBackCard : Claim7 := { stood := { row := textBackRow, standIns := [], harness := (true, "43cbb7745b7ba41be76df06a9786612c5eb9630e1f60daf3bca8e8904be84e8b"), looks := true }, kinds := [], alts := [], laidByText := true, laidKinds := [.data, .data, .data, .data, .sentinel, .sentinel, .pinned], laidTests := true, laidLooks := .later }
def TextBackCardSaid : Prop := Claim7.holds Tryd.pinned (.plain (OpenSpec.ofChange textBackSpec)) textBackCard

/-- THE TIED CARD OF 'turnkeylaw.NoteBack'. -/
def noteBackCard : Claim7 := { stood := { row := noteBackRow, standIns := [], harness := (true, "43cbb7745b7ba41be76df06a9786612c5eb9630e1f60daf3bca8e8904be84e8b"), looks := true }, kinds := [], alts := [], laidByText := true, laidKinds := [.data, .data, .data, .data, .sentinel, .sentinel, .pinned], laidTests := true, laidLooks := .later }
def NoteBackCardSaid : Prop := Claim7.holds Tryd.pinned (.plain (OpenSpec.ofChange noteBackSpec)) noteBackCard

/-- THE TIED CARD OF 'turnkeylaw.DiskKeeps'. -/
def diskKeepsCard : Claim7 := { stood := { row := diskKeepsRow, standIns := [], harness := (true, "43cbb7745b7ba41be76df06a9786612c5eb9630e1f60daf3bca8e8904be84e8b"), looks := true }, kinds := [], alts := [], laidByText := true, laidKinds := [.data, .data, .data, .data, .sentinel, .sentinel, .pinned], laidTests := true, laidLooks := .later }
def DiskKeepsCardSaid : Prop := Claim7.holds Tryd.pinned (.plain (OpenSpec.ofChange diskKeepsSpec)) diskKeepsCard

/-- THE SECOND FORM's CARD OF 'turnkeylaw.PolicySays'. -/
def policySaysUptoCard : Claim7 := { stood := { row := policySaysUptoRow, standIns := [], harness := (true, "43cbb7745b7ba41be76df06a9786612c5eb9630e1f60daf3bca8e8904be84e8b"), looks := true }, kinds := [], alts := [], laidByText := true, laidKinds := [.data, .data, .data, .data, .sentinel, .sentinel, .pinned], laidTests := true, laidLooks := .later }
def PolicySaysUptoCardSaid : Prop := Claim7.holds Tryd.pinned (.plain (OpenSpec.upto policySaysSpec)) policySaysUptoCard

/-- THE SECOND FORM's CARD OF 'turnkeylaw.PolicyFirst'. -/
def policyFirstUptoCard : Claim7 := { stood := { row := policyFirstUptoRow, standIns := [], harness := (true, "43cbb7745b7ba41be76df06a9786612c5eb9630e1f60daf3bca8e8904be84e8b"), looks := true }, kinds := [], alts := [], laidByText := true, laidKinds := [.data, .data, .data, .data, .sentinel, .sentinel, .pinned], laidTests := true, laidLooks := .later }
def PolicyFirstUptoCardSaid : Prop := Claim7.holds Tryd.pinned (.plain (OpenSpec.upto policyFirstSpec)) policyFirstUptoCard

/-- THE SECOND FORM's CARD OF 'turnkeylaw.CompileSays'. -/
def compileSaysUptoCard : Claim7 := { stood := { row := compileSaysUptoRow, standIns := [], harness := (true, "43cbb7745b7ba41be76df06a9786612c5eb9630e1f60daf3bca8e8904be84e8b"), looks := true }, kinds := [], alts := [], laidByText := true, laidKinds := [.data, .data, .data, .data, .sentinel, .sentinel, .pinned], laidTests := true, laidLooks := .later }
def CompileSaysUptoCardSaid : Prop := Claim7.holds Tryd.pinned (.plain (OpenSpec.upto compileSaysSpec)) compileSaysUptoCard

/-- THE SECOND FORM's CARD OF 'turnkeylaw.CompileMeans'. -/
def compileMeansUptoCard : Claim7 := { stood := { row := compileMeansUptoRow, standIns := [], harness := (true, "43cbb7745b7ba41be76df06a9786612c5eb9630e1f60daf3bca8e8904be84e8b"), looks := true }, kinds := [], alts := [], laidByText := true, laidKinds := [.data, .data, .data, .data, .sentinel, .sentinel, .pinned], laidTests := true, laidLooks := .later }
def CompileMeansUptoCardSaid : Prop := Claim7.holds Tryd.pinned (.plain (OpenSpec.upto compileMeansSpec)) compileMeansUptoCard

/-- THE SECOND FORM's CARD OF 'turnkeylaw.TextBack'. -/
def textBackUptoCard : Claim7 := { stood := { row := textBackUptoRow, standIns := [], harness := (true, "43cbb7745b7ba41be76df06a9786612c5eb9630e1f60daf3bca8e8904be84e8b"), looks := true }, kinds := [], alts := [], laidByText := true, laidKinds := [.data, .data, .data, .data, .sentinel, .sentinel, .pinned], laidTests := true, laidLooks := .later }
def TextBackUptoCardSaid : Prop := Claim7.holds Tryd.pinned (.plain (OpenSpec.upto textBackSpec)) textBackUptoCard

/-- THE SECOND FORM's CARD OF 'turnkeylaw.NoteBack'. -/
def noteBackUptoCard : Claim7 := { stood := { row := noteBackUptoRow, standIns := [], harness := (true, "43cbb7745b7ba41be76df06a9786612c5eb9630e1f60daf3bca8e8904be84e8b"), looks := true }, kinds := [], alts := [], laidByText := true, laidKinds := [.data, .data, .data, .data, .sentinel, .sentinel, .pinned], laidTests := true, laidLooks := .later }
def NoteBackUptoCardSaid : Prop := Claim7.holds Tryd.pinned (.plain (OpenSpec.upto noteBackSpec)) noteBackUptoCard

/-- THE SECOND FORM's CARD OF 'turnkeylaw.DiskKeeps'. -/
def diskKeepsUptoCard : Claim7 := { stood := { row := diskKeepsUptoRow, standIns := [], harness := (true, "43cbb7745b7ba41be76df06a9786612c5eb9630e1f60daf3bca8e8904be84e8b"), looks := true }, kinds := [], alts := [], laidByText := true, laidKinds := [.data, .data, .data, .data, .sentinel, .sentinel, .pinned], laidTests := true, laidLooks := .later }
def DiskKeepsUptoCardSaid : Prop := Claim7.holds Tryd.pinned (.plain (OpenSpec.upto diskKeepsSpec)) diskKeepsUptoCard
end Rows
end Go.Proofs.YtlhhomimcnjnfaaDoor
