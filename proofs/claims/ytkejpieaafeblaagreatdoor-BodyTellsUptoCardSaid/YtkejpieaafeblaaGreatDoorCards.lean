/-
  DERIVED. GIVEN WITH THE SEED: THE CARDS: each row of YtkejpieaafeblaaGreatDoorRows.lean that lists a variable, with what it lists TIED to the program's text (the seventh form; the later family's looks); each row that meets fmt, with fmt's text TOLD by the authors' own Lean function (tested against real Go, not proved from fmt's source: count such statements apart). THE CARD IS WHAT COUNTS. Prove the row's statement (the work); the ties are given (YtkejpieaafeblaaGreatDoorTie.lean); close each card by the builder's one call (the guide's Derived/Test/ToyasCard.lean, 'card_holds'). Laid BY PROGRAM, IN A SANDBOX (cutbox-door.mjs). By AI agents, Wed Nov 11 2026. No macro, syntax, notation, axiom, sorry.
-/
import Derived.Test.YtkejpieaafeblaaGreatDoorRows
import GoSem.ClaimSeven
namespace Go.Proofs.YtkejpieaafeblaaGreatDoor
namespace Rows

/-- THE TIED CARD OF 'foliantlaw08.BodyTells'. -/
def bodyTellsCard : Claim7 := { stood := { row := bodyTellsRow, standIns := [], harness := (true, "5584664156e052c7cc4127bc826997611b9f7f1a28a4f4f9d0739924e7baf2d6"), looks := true }, kinds := [], alts := [], laidByText := true, laidKinds := [.data, .data, .data, .data, .pinned], laidTests := true, laidLooks := .later }
def BodyTellsCardSaid : Prop := Claim7.holds Tryz.pinned (.plain (OpenSpec.ofChange bodyTellsSpec)) bodyTellsCard

/-- THE TIED CARD OF 'foliantlaw08.BodyBack'. -/
def bodyBackCard : Claim7 := { stood := { row := bodyBackRow, standIns := [], harness := (true, "5584664156e052c7cc4127bc826997611b9f7f1a28a4f4f9d0739924e7baf2d6"), looks := true }, kinds := [], alts := [], laidByText := true, laidKinds := [.data, .data, .data, .data, .pinned], laidTests := true, laidLooks := .later }
def BodyBackCardSaid : Prop := Claim7.holds Tryz.pinned (.plain (OpenSpec.ofChange bodyBackSpec)) bodyBackCard

/-- THE TIED CARD OF 'foliantlaw08.BodyCut'. -/
def bodyCutCard : Claim7 := { stood := { row := bodyCutRow, standIns := [], harness := (true, "5584664156e052c7cc4127bc826997611b9f7f1a28a4f4f9d0739924e7baf2d6"), looks := true }, kinds := [], alts := [], laidByText := true, laidKinds := [.data, .data, .data, .data, .pinned], laidTests := true, laidLooks := .later }
def BodyCutCardSaid : Prop := Claim7.holds Tryz.pinned (.plain (OpenSpec.ofChange bodyCutSpec)) bodyCutCard

/-- THE TIED CARD OF 'foliantlaw08.BodyLong'. -/
def bodyLongCard : Claim7 := { stood := { row := bodyLongRow, standIns := [], harness := (true, "5584664156e052c7cc4127bc826997611b9f7f1a28a4f4f9d0739924e7baf2d6"), looks := true }, kinds := [], alts := [], laidByText := true, laidKinds := [.data, .data, .data, .data, .pinned], laidTests := true, laidLooks := .later }
def BodyLongCardSaid : Prop := Claim7.holds Tryz.pinned (.plain (OpenSpec.ofChange bodyLongSpec)) bodyLongCard

/-- THE SECOND FORM's CARD OF 'foliantlaw08.BodyTells'. -/
def bodyTellsUptoCard : Claim7 := { stood := { row := bodyTellsUptoRow, standIns := [], harness := (true, "5584664156e052c7cc4127bc826997611b9f7f1a28a4f4f9d0739924e7baf2d6"), looks := true }, kinds := [], alts := [], laidByText := true, laidKinds := [.data, .data, .data, .data, .pinned], laidTests := true, laidLooks := .later }
def BodyTellsUptoCardSaid : Prop := Claim7.holds Tryz.pinned (.plain (OpenSpec.upto bodyTellsSpec)) bodyTellsUptoCard

/-- THE SECOND FORM's CARD OF 'foliantlaw08.BodyBack'. -/
def bodyBackUptoCard : Claim7 := { stood := { row := bodyBackUptoRow, standIns := [], harness := (true, "5584664156e052c7cc4127bc826997611b9f7f1a28a4f4f9d0739924e7baf2d6"), looks := true }, kinds := [], alts := [], laidByText := true, laidKinds := [.data, .data, .data, .data, .pinned], laidTests := true, laidLooks := .later }
def BodyBackUptoCardSaid : Prop := Claim7.holds Tryz.pinned (.plain (OpenSpec.upto bodyBackSpec)) bodyBackUptoCard

/-- THE SECOND FORM's CARD OF 'foliantlaw08.BodyCut'. -/
def bodyCutUptoCard : Claim7 := { stood := { row := bodyCutUptoRow, standIns := [], harness := (true, "5584664156e052c7cc4127bc826997611b9f7f1a28a4f4f9d0739924e7baf2d6"), looks := true }, kinds := [], alts := [], laidByText := true, laidKinds := [.data, .data, .data, .data, .pinned], laidTests := true, laidLooks := .later }
def BodyCutUptoCardSaid : Prop := Claim7.holds Tryz.pinned (.plain (OpenSpec.upto bodyCutSpec)) bodyCutUptoCard

/-- THE SECOND FORM's CARD OF 'foliantlaw08.BodyLong'. -/
def bodyLongUptoCard : Claim7 := { stood := { row := bodyLongUptoRow, standIns := [], harness := (true, "5584664156e052c7cc4127bc826997611b9f7f1a28a4f4f9d0739924e7baf2d6"), looks := true }, kinds := [], alts := [], laidByText := true, laidKinds := [.data, .data, .data, .data, .pinned], laidTests := true, laidLooks := .later }
def BodyLongUptoCardSaid : Prop := Claim7.holds Tryz.pinned (.plain (OpenSpec.upto bodyLongSpec)) bodyLongUptoCard
end Rows
end Go.Proofs.YtkejpieaafeblaaGreatDoor
