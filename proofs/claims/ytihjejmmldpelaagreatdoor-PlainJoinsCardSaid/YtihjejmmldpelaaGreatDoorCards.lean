/-
  DERIVED. GIVEN WITH THE SEED: THE CARDS: each row of YtihjejmmldpelaaGreatDoorRows.lean that lists a variable, with what it lists TIED to the program's text (the seventh form; the later family's looks); each row that meets fmt, with fmt's text TOLD by the authors' own Lean function (tested against real Go, not proved from fmt's source: count such statements apart). THE CARD IS WHAT COUNTS. Prove the row's statement (the work); the ties are given (YtihjejmmldpelaaGreatDoorTie.lean); close each card by the builder's one call (the guide's Derived/Test/ToyasCard.lean, 'card_holds'). Laid BY PROGRAM, IN A SANDBOX (cutbox-door.mjs). By AI agents, Wed Nov 11 2026. No macro, syntax, notation, axiom, sorry.
-/
import Derived.Test.YtihjejmmldpelaaGreatDoorRows
import GoSem.ClaimSeven
namespace Go.Proofs.YtihjejmmldpelaaGreatDoor
namespace Rows

/-- THE TIED CARD OF 'foliantlaw07.WriteText'. -/
def writeTextCard : Claim7 := { stood := { row := writeTextRow, standIns := [], harness := (true, "1d121a0d942984cb956323c25584cfa179d483013d6756b4d270901ee361db74"), looks := true }, kinds := [], alts := [], laidByText := true, laidKinds := [.data, .data, .data, .data, .pinned], laidTests := true, laidLooks := .later }
def WriteTextCardSaid : Prop := Claim7.holds Tryz.pinned (.plain (OpenSpec.ofChange writeTextSpec)) writeTextCard

/-- THE TIED CARD OF 'foliantlaw07.WriteMany'. -/
def writeManyCard : Claim7 := { stood := { row := writeManyRow, standIns := [], harness := (true, "1d121a0d942984cb956323c25584cfa179d483013d6756b4d270901ee361db74"), looks := true }, kinds := [], alts := [], laidByText := true, laidKinds := [.data, .data, .data, .data, .pinned], laidTests := true, laidLooks := .later }
def WriteManyCardSaid : Prop := Claim7.holds Tryz.pinned (.plain (OpenSpec.ofChange writeManySpec)) writeManyCard

/-- THE TIED CARD OF 'foliantlaw07.WriteTokens'. -/
def writeTokensCard : Claim7 := { stood := { row := writeTokensRow, standIns := [], harness := (true, "1d121a0d942984cb956323c25584cfa179d483013d6756b4d270901ee361db74"), looks := true }, kinds := [], alts := [], laidByText := true, laidKinds := [.data, .data, .data, .data, .pinned], laidTests := true, laidLooks := .later }
def WriteTokensCardSaid : Prop := Claim7.holds Tryz.pinned (.plain (OpenSpec.ofChange writeTokensSpec)) writeTokensCard

/-- THE TIED CARD OF 'foliantlaw04.PlainReads'. -/
def plainReadsCard : Claim7 := { stood := { row := plainReadsRow, standIns := [], harness := (true, "1d121a0d942984cb956323c25584cfa179d483013d6756b4d270901ee361db74"), looks := true }, kinds := [], alts := [], laidByText := true, laidKinds := [.data, .data, .data, .data, .pinned], laidTests := true, laidLooks := .later }
def PlainReadsCardSaid : Prop := Claim7.holds Tryz.pinned (.plain (OpenSpec.ofChange plainReadsSpec)) plainReadsCard

/-- THE TIED CARD OF 'foliantlaw04.PlainJoins'. -/
def plainJoinsCard : Claim7 := { stood := { row := plainJoinsRow, standIns := [], harness := (true, "1d121a0d942984cb956323c25584cfa179d483013d6756b4d270901ee361db74"), looks := true }, kinds := [], alts := [], laidByText := true, laidKinds := [.data, .data, .data, .data, .pinned], laidTests := true, laidLooks := .later }
def PlainJoinsCardSaid : Prop := Claim7.holds Tryz.pinned (.plain (OpenSpec.ofChange plainJoinsSpec)) plainJoinsCard

/-- THE SECOND FORM's CARD OF 'foliantlaw07.WriteText'. -/
def writeTextUptoCard : Claim7 := { stood := { row := writeTextUptoRow, standIns := [], harness := (true, "1d121a0d942984cb956323c25584cfa179d483013d6756b4d270901ee361db74"), looks := true }, kinds := [], alts := [], laidByText := true, laidKinds := [.data, .data, .data, .data, .pinned], laidTests := true, laidLooks := .later }
def WriteTextUptoCardSaid : Prop := Claim7.holds Tryz.pinned (.plain (OpenSpec.upto writeTextSpec)) writeTextUptoCard

/-- THE SECOND FORM's CARD OF 'foliantlaw07.WriteMany'. -/
def writeManyUptoCard : Claim7 := { stood := { row := writeManyUptoRow, standIns := [], harness := (true, "1d121a0d942984cb956323c25584cfa179d483013d6756b4d270901ee361db74"), looks := true }, kinds := [], alts := [], laidByText := true, laidKinds := [.data, .data, .data, .data, .pinned], laidTests := true, laidLooks := .later }
def WriteManyUptoCardSaid : Prop := Claim7.holds Tryz.pinned (.plain (OpenSpec.upto writeManySpec)) writeManyUptoCard

/-- THE SECOND FORM's CARD OF 'foliantlaw07.WriteTokens'. -/
def writeTokensUptoCard : Claim7 := { stood := { row := writeTokensUptoRow, standIns := [], harness := (true, "1d121a0d942984cb956323c25584cfa179d483013d6756b4d270901ee361db74"), looks := true }, kinds := [], alts := [], laidByText := true, laidKinds := [.data, .data, .data, .data, .pinned], laidTests := true, laidLooks := .later }
def WriteTokensUptoCardSaid : Prop := Claim7.holds Tryz.pinned (.plain (OpenSpec.upto writeTokensSpec)) writeTokensUptoCard

/-- THE SECOND FORM's CARD OF 'foliantlaw04.PlainReads'. -/
def plainReadsUptoCard : Claim7 := { stood := { row := plainReadsUptoRow, standIns := [], harness := (true, "1d121a0d942984cb956323c25584cfa179d483013d6756b4d270901ee361db74"), looks := true }, kinds := [], alts := [], laidByText := true, laidKinds := [.data, .data, .data, .data, .pinned], laidTests := true, laidLooks := .later }
def PlainReadsUptoCardSaid : Prop := Claim7.holds Tryz.pinned (.plain (OpenSpec.upto plainReadsSpec)) plainReadsUptoCard

/-- THE SECOND FORM's CARD OF 'foliantlaw04.PlainJoins'. -/
def plainJoinsUptoCard : Claim7 := { stood := { row := plainJoinsUptoRow, standIns := [], harness := (true, "1d121a0d942984cb956323c25584cfa179d483013d6756b4d270901ee361db74"), looks := true }, kinds := [], alts := [], laidByText := true, laidKinds := [.data, .data, .data, .data, .pinned], laidTests := true, laidLooks := .later }
def PlainJoinsUptoCardSaid : Prop := Claim7.holds Tryz.pinned (.plain (OpenSpec.upto plainJoinsSpec)) plainJoinsUptoCard
end Rows
end Go.Proofs.YtihjejmmldpelaaGreatDoor
