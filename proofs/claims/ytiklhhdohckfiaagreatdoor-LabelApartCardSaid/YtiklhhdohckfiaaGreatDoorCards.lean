/-
  DERIVED. GIVEN WITH THE SEED: THE CARDS: each row of YtiklhhdohckfiaaGreatDoorRows.lean that lists a variable, with what it lists TIED to the program's text (the seventh form; the later family's looks); each row that meets fmt, with fmt's text TOLD by the authors' own Lean function (tested against real Go, not proved from fmt's source: count such statements apart). THE CARD IS WHAT COUNTS. Prove the row's statement (the work); the ties are given (YtiklhhdohckfiaaGreatDoorTie.lean); close each card by the builder's one call (the guide's Derived/Test/ToyasCard.lean, 'card_holds'). Laid BY PROGRAM, IN A SANDBOX (cutbox-door.mjs). By AI agents, Wed Nov 11 2026. No macro, syntax, notation, axiom, sorry.
-/
import Derived.Test.YtiklhhdohckfiaaGreatDoorRows
import GoSem.ClaimSeven
namespace Go.Proofs.YtiklhhdohckfiaaGreatDoor
namespace Rows

/-- THE TIED CARD OF 'foliantlaw07.WriteText'. -/
def writeTextCard : Claim7 := { stood := { row := writeTextRow, standIns := [], harness := (true, "8a45a3dc27fb8720de88919978141775db56771f2f3b02ccc7ecc7abfe92881f"), looks := true }, kinds := [], alts := [], laidByText := true, laidKinds := [.data, .data, .data, .data, .pinned], laidTests := true, laidLooks := .later }
def WriteTextCardSaid : Prop := Claim7.holds Tryz.pinned (.plain (OpenSpec.ofChange writeTextSpec)) writeTextCard

/-- THE TIED CARD OF 'foliantlaw07.WriteMany'. -/
def writeManyCard : Claim7 := { stood := { row := writeManyRow, standIns := [], harness := (true, "8a45a3dc27fb8720de88919978141775db56771f2f3b02ccc7ecc7abfe92881f"), looks := true }, kinds := [], alts := [], laidByText := true, laidKinds := [.data, .data, .data, .data, .pinned], laidTests := true, laidLooks := .later }
def WriteManyCardSaid : Prop := Claim7.holds Tryz.pinned (.plain (OpenSpec.ofChange writeManySpec)) writeManyCard

/-- THE TIED CARD OF 'foliantlaw07.WriteTokens'. -/
def writeTokensCard : Claim7 := { stood := { row := writeTokensRow, standIns := [], harness := (true, "8a45a3dc27fb8720de88919978141775db56771f2f3b02ccc7ecc7abfe92881f"), looks := true }, kinds := [], alts := [], laidByText := true, laidKinds := [.data, .data, .data, .data, .pinned], laidTests := true, laidLooks := .later }
def WriteTokensCardSaid : Prop := Claim7.holds Tryz.pinned (.plain (OpenSpec.ofChange writeTokensSpec)) writeTokensCard

/-- THE TIED CARD OF 'foliantlaw38.LabelReads'. -/
def labelReadsCard : Claim7 := { stood := { row := labelReadsRow, standIns := [], harness := (true, "8a45a3dc27fb8720de88919978141775db56771f2f3b02ccc7ecc7abfe92881f"), looks := true }, kinds := [], alts := [], laidByText := true, laidKinds := [.data, .data, .data, .data, .pinned, .pinned], laidTests := true, laidLooks := .later }
def LabelReadsCardSaid : Prop := Claim7.holds Tryz.pinned (.plain (OpenSpec.ofChange labelReadsSpec)) labelReadsCard

/-- THE TIED CARD OF 'foliantlaw38.LabelSets'. -/
def labelSetsCard : Claim7 := { stood := { row := labelSetsRow, standIns := [], harness := (true, "8a45a3dc27fb8720de88919978141775db56771f2f3b02ccc7ecc7abfe92881f"), looks := true }, kinds := [], alts := [], laidByText := true, laidKinds := [.data, .data, .data, .data, .pinned, .pinned], laidTests := true, laidLooks := .later }
def LabelSetsCardSaid : Prop := Claim7.holds Tryz.pinned (.plain (OpenSpec.ofChange labelSetsSpec)) labelSetsCard

/-- THE TIED CARD OF 'foliantlaw38.LabelTells'. -/
def labelTellsCard : Claim7 := { stood := { row := labelTellsRow, standIns := [], harness := (true, "8a45a3dc27fb8720de88919978141775db56771f2f3b02ccc7ecc7abfe92881f"), looks := true }, kinds := [], alts := [], laidByText := true, laidKinds := [.data, .data, .data, .data, .pinned, .pinned], laidTests := true, laidLooks := .later }
def LabelTellsCardSaid : Prop := Claim7.holds Tryz.pinned (.plain (OpenSpec.ofChange labelTellsSpec)) labelTellsCard

/-- THE TIED CARD OF 'foliantlaw38.LabelBack'. -/
def labelBackCard : Claim7 := { stood := { row := labelBackRow, standIns := [], harness := (true, "8a45a3dc27fb8720de88919978141775db56771f2f3b02ccc7ecc7abfe92881f"), looks := true }, kinds := [], alts := [], laidByText := true, laidKinds := [.data, .data, .data, .data, .pinned, .pinned], laidTests := true, laidLooks := .later }
def LabelBackCardSaid : Prop := Claim7.holds Tryz.pinned (.plain (OpenSpec.ofChange labelBackSpec)) labelBackCard

/-- THE TIED CARD OF 'foliantlaw38.LabelApart'. -/
def labelApartCard : Claim7 := { stood := { row := labelApartRow, standIns := [], harness := (true, "8a45a3dc27fb8720de88919978141775db56771f2f3b02ccc7ecc7abfe92881f"), looks := true }, kinds := [], alts := [], laidByText := true, laidKinds := [.data, .data, .data, .data, .pinned, .pinned], laidTests := true, laidLooks := .later }
def LabelApartCardSaid : Prop := Claim7.holds Tryz.pinned (.plain (OpenSpec.ofChange labelApartSpec)) labelApartCard

/-- THE SECOND FORM's CARD OF 'foliantlaw07.WriteText'. -/
def writeTextUptoCard : Claim7 := { stood := { row := writeTextUptoRow, standIns := [], harness := (true, "8a45a3dc27fb8720de88919978141775db56771f2f3b02ccc7ecc7abfe92881f"), looks := true }, kinds := [], alts := [], laidByText := true, laidKinds := [.data, .data, .data, .data, .pinned], laidTests := true, laidLooks := .later }
def WriteTextUptoCardSaid : Prop := Claim7.holds Tryz.pinned (.plain (OpenSpec.upto writeTextSpec)) writeTextUptoCard

/-- THE SECOND FORM's CARD OF 'foliantlaw07.WriteMany'. -/
def writeManyUptoCard : Claim7 := { stood := { row := writeManyUptoRow, standIns := [], harness := (true, "8a45a3dc27fb8720de88919978141775db56771f2f3b02ccc7ecc7abfe92881f"), looks := true }, kinds := [], alts := [], laidByText := true, laidKinds := [.data, .data, .data, .data, .pinned], laidTests := true, laidLooks := .later }
def WriteManyUptoCardSaid : Prop := Claim7.holds Tryz.pinned (.plain (OpenSpec.upto writeManySpec)) writeManyUptoCard

/-- THE SECOND FORM's CARD OF 'foliantlaw07.WriteTokens'. -/
def writeTokensUptoCard : Claim7 := { stood := { row := writeTokensUptoRow, standIns := [], harness := (true, "8a45a3dc27fb8720de88919978141775db56771f2f3b02ccc7ecc7abfe92881f"), looks := true }, kinds := [], alts := [], laidByText := true, laidKinds := [.data, .data, .data, .data, .pinned], laidTests := true, laidLooks := .later }
def WriteTokensUptoCardSaid : Prop := Claim7.holds Tryz.pinned (.plain (OpenSpec.upto writeTokensSpec)) writeTokensUptoCard

/-- THE SECOND FORM's CARD OF 'foliantlaw38.LabelReads'. -/
def labelReadsUptoCard : Claim7 := { stood := { row := labelReadsUptoRow, standIns := [], harness := (true, "8a45a3dc27fb8720de88919978141775db56771f2f3b02ccc7ecc7abfe92881f"), looks := true }, kinds := [], alts := [], laidByText := true, laidKinds := [.data, .data, .data, .data, .pinned, .pinned], laidTests := true, laidLooks := .later }
def LabelReadsUptoCardSaid : Prop := Claim7.holds Tryz.pinned (.plain (OpenSpec.upto labelReadsSpec)) labelReadsUptoCard

/-- THE SECOND FORM's CARD OF 'foliantlaw38.LabelSets'. -/
def labelSetsUptoCard : Claim7 := { stood := { row := labelSetsUptoRow, standIns := [], harness := (true, "8a45a3dc27fb8720de88919978141775db56771f2f3b02ccc7ecc7abfe92881f"), looks := true }, kinds := [], alts := [], laidByText := true, laidKinds := [.data, .data, .data, .data, .pinned, .pinned], laidTests := true, laidLooks := .later }
def LabelSetsUptoCardSaid : Prop := Claim7.holds Tryz.pinned (.plain (OpenSpec.upto labelSetsSpec)) labelSetsUptoCard

/-- THE SECOND FORM's CARD OF 'foliantlaw38.LabelTells'. -/
def labelTellsUptoCard : Claim7 := { stood := { row := labelTellsUptoRow, standIns := [], harness := (true, "8a45a3dc27fb8720de88919978141775db56771f2f3b02ccc7ecc7abfe92881f"), looks := true }, kinds := [], alts := [], laidByText := true, laidKinds := [.data, .data, .data, .data, .pinned, .pinned], laidTests := true, laidLooks := .later }
def LabelTellsUptoCardSaid : Prop := Claim7.holds Tryz.pinned (.plain (OpenSpec.upto labelTellsSpec)) labelTellsUptoCard

/-- THE SECOND FORM's CARD OF 'foliantlaw38.LabelBack'. -/
def labelBackUptoCard : Claim7 := { stood := { row := labelBackUptoRow, standIns := [], harness := (true, "8a45a3dc27fb8720de88919978141775db56771f2f3b02ccc7ecc7abfe92881f"), looks := true }, kinds := [], alts := [], laidByText := true, laidKinds := [.data, .data, .data, .data, .pinned, .pinned], laidTests := true, laidLooks := .later }
def LabelBackUptoCardSaid : Prop := Claim7.holds Tryz.pinned (.plain (OpenSpec.upto labelBackSpec)) labelBackUptoCard

/-- THE SECOND FORM's CARD OF 'foliantlaw38.LabelApart'. -/
def labelApartUptoCard : Claim7 := { stood := { row := labelApartUptoRow, standIns := [], harness := (true, "8a45a3dc27fb8720de88919978141775db56771f2f3b02ccc7ecc7abfe92881f"), looks := true }, kinds := [], alts := [], laidByText := true, laidKinds := [.data, .data, .data, .data, .pinned, .pinned], laidTests := true, laidLooks := .later }
def LabelApartUptoCardSaid : Prop := Claim7.holds Tryz.pinned (.plain (OpenSpec.upto labelApartSpec)) labelApartUptoCard
end Rows
end Go.Proofs.YtiklhhdohckfiaaGreatDoor
