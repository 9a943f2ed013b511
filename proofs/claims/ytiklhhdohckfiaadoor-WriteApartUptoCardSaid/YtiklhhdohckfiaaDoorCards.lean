/-
  DERIVED. GIVEN WITH THE SEED: THE CARDS: each row of YtiklhhdohckfiaaDoorRows.lean that lists a variable, with what it lists TIED to the program's text (the seventh form; the later family's looks); each row that meets fmt, with fmt's text TOLD by the authors' own Lean function (tested against real Go, not proved from fmt's source: count such statements apart). THE CARD IS WHAT COUNTS. Prove the row's statement (the work); the ties are given (YtiklhhdohckfiaaDoorTie.lean); close each card by the builder's one call (the guide's Derived/Test/ToyasCard.lean, 'card_holds'). Laid BY PROGRAM, IN A SANDBOX (cutbox-door.mjs). By AI agents, Wed Nov 11 2026. No macro, syntax, notation, axiom, sorry.
-/
import Derived.Test.YtiklhhdohckfiaaDoorRows
import GoSem.ClaimSeven
namespace Go.Proofs.YtiklhhdohckfiaaDoor
namespace Rows

/-- THE TIED CARD OF 'foliantlaw07.WriteApart'. -/
def writeApartCard : Claim7 := { stood := { row := writeApartRow, standIns := [], harness := (true, "ebb2738c5cfb9a9c1e5ae417651dd6f77a2527c4681a2bf571b753f6cc394fb6"), looks := true }, kinds := [], alts := [], laidByText := true, laidKinds := [.data, .data, .data, .data, .pinned], laidTests := true, laidLooks := .later }
def WriteApartCardSaid : Prop := Claim7.holds Tryd.pinned (.plain (OpenSpec.ofChange writeApartSpec)) writeApartCard

/-- THE SECOND FORM's CARD OF 'foliantlaw07.WriteApart'. -/
def writeApartUptoCard : Claim7 := { stood := { row := writeApartUptoRow, standIns := [], harness := (true, "ebb2738c5cfb9a9c1e5ae417651dd6f77a2527c4681a2bf571b753f6cc394fb6"), looks := true }, kinds := [], alts := [], laidByText := true, laidKinds := [.data, .data, .data, .data, .pinned], laidTests := true, laidLooks := .later }
def WriteApartUptoCardSaid : Prop := Claim7.holds Tryd.pinned (.plain (OpenSpec.upto writeApartSpec)) writeApartUptoCard
end Rows
end Go.Proofs.YtiklhhdohckfiaaDoor
