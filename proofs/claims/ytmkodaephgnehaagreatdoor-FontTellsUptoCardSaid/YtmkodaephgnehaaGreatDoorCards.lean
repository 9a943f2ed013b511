/-
  DERIVED. GIVEN WITH THE SEED: THE CARDS: each row of YtmkodaephgnehaaGreatDoorRows.lean that lists a variable, with what it lists TIED to the program's text (the seventh form; the later family's looks); each row that meets fmt, with fmt's text TOLD by the authors' own Lean function (tested against real Go, not proved from fmt's source: count such statements apart). THE CARD IS WHAT COUNTS. Prove the row's statement (the work); the ties are given (YtmkodaephgnehaaGreatDoorTie.lean); close each card by the builder's one call (the guide's Derived/Test/ToyasCard.lean, 'card_holds'). Laid BY PROGRAM, IN A SANDBOX (cutbox-door.mjs). By AI agents, Wed Nov 11 2026. No macro, syntax, notation, axiom, sorry.
-/
import Derived.Test.YtmkodaephgnehaaGreatDoorRows
import GoSem.ClaimSeven
namespace Go.Proofs.YtmkodaephgnehaaGreatDoor
namespace Rows

/-- THE TIED CARD OF 'foliantlaw47.FontTells'. -/
def fontTellsCard : Claim7 := { stood := { row := fontTellsRow, standIns := [], harness := (true, "b7b19335d0f8b3494ab6b4bc8106376f9eb0e5665139822a52ff93ee86b62af7"), looks := true }, kinds := [], alts := [], laidByText := true, laidKinds := [.data, .widerDeep, .mapped, .listed, .data, .widerDeep, .pinned], laidTests := true, laidLooks := .later }
def FontTellsCardSaid : Prop := Claim7.holds Tryz.pinned (.plain (OpenSpec.ofChange fontTellsSpec)) fontTellsCard

/-- THE TIED CARD OF 'foliantlaw47.FontEach'. -/
def fontEachCard : Claim7 := { stood := { row := fontEachRow, standIns := [], harness := (true, "b7b19335d0f8b3494ab6b4bc8106376f9eb0e5665139822a52ff93ee86b62af7"), looks := true }, kinds := [], alts := [], laidByText := true, laidKinds := [.data, .widerDeep, .mapped, .listed, .data, .widerDeep, .pinned], laidTests := true, laidLooks := .later }
def FontEachCardSaid : Prop := Claim7.holds Tryz.pinned (.plain (OpenSpec.ofChange fontEachSpec)) fontEachCard

/-- THE SECOND FORM's CARD OF 'foliantlaw47.FontTells'. -/
def fontTellsUptoCard : Claim7 := { stood := { row := fontTellsUptoRow, standIns := [], harness := (true, "b7b19335d0f8b3494ab6b4bc8106376f9eb0e5665139822a52ff93ee86b62af7"), looks := true }, kinds := [], alts := [], laidByText := true, laidKinds := [.data, .widerDeep, .mapped, .listed, .data, .widerDeep, .pinned], laidTests := true, laidLooks := .later }
def FontTellsUptoCardSaid : Prop := Claim7.holds Tryz.pinned (.plain (OpenSpec.upto fontTellsSpec)) fontTellsUptoCard

/-- THE SECOND FORM's CARD OF 'foliantlaw47.FontEach'. -/
def fontEachUptoCard : Claim7 := { stood := { row := fontEachUptoRow, standIns := [], harness := (true, "b7b19335d0f8b3494ab6b4bc8106376f9eb0e5665139822a52ff93ee86b62af7"), looks := true }, kinds := [], alts := [], laidByText := true, laidKinds := [.data, .widerDeep, .mapped, .listed, .data, .widerDeep, .pinned], laidTests := true, laidLooks := .later }
def FontEachUptoCardSaid : Prop := Claim7.holds Tryz.pinned (.plain (OpenSpec.upto fontEachSpec)) fontEachUptoCard
end Rows
end Go.Proofs.YtmkodaephgnehaaGreatDoor
