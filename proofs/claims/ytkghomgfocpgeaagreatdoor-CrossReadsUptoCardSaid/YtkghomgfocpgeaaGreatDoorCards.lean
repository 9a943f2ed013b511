/-
  DERIVED. GIVEN WITH THE SEED: THE CARDS: each row of YtkghomgfocpgeaaGreatDoorRows.lean that lists a variable, with what it lists TIED to the program's text (the seventh form; the later family's looks); each row that meets fmt, with fmt's text TOLD by the authors' own Lean function (tested against real Go, not proved from fmt's source: count such statements apart). THE CARD IS WHAT COUNTS. Prove the row's statement (the work); the ties are given (YtkghomgfocpgeaaGreatDoorTie.lean); close each card by the builder's one call (the guide's Derived/Test/ToyasCard.lean, 'card_holds'). Laid BY PROGRAM, IN A SANDBOX (cutbox-door.mjs). By AI agents, Wed Nov 11 2026. No macro, syntax, notation, axiom, sorry.
-/
import Derived.Test.YtkghomgfocpgeaaGreatDoorRows
import GoSem.ClaimSeven
namespace Go.Proofs.YtkghomgfocpgeaaGreatDoor
namespace Rows

/-- THE TIED CARD OF 'foliantlaw20.CrossReads'. -/
def crossReadsCard : Claim7 := { stood := { row := crossReadsRow, standIns := [], harness := (true, "3d91139ad453f3b04bab3394b601329fe223c674d4d3e758c736c54e76a222b2"), looks := true }, kinds := [], alts := [], laidByText := true, laidKinds := [.widerDeep, .mapped, .widerDeep], laidTests := true, laidLooks := .later }
def CrossReadsCardSaid : Prop := Claim7.holds Tryz.pinned (.plain (OpenSpec.ofChange crossReadsSpec)) crossReadsCard

/-- THE SECOND FORM's CARD OF 'foliantlaw20.CrossReads'. -/
def crossReadsUptoCard : Claim7 := { stood := { row := crossReadsUptoRow, standIns := [], harness := (true, "3d91139ad453f3b04bab3394b601329fe223c674d4d3e758c736c54e76a222b2"), looks := true }, kinds := [], alts := [], laidByText := true, laidKinds := [.widerDeep, .mapped, .widerDeep], laidTests := true, laidLooks := .later }
def CrossReadsUptoCardSaid : Prop := Claim7.holds Tryz.pinned (.plain (OpenSpec.upto crossReadsSpec)) crossReadsUptoCard
end Rows
end Go.Proofs.YtkghomgfocpgeaaGreatDoor
