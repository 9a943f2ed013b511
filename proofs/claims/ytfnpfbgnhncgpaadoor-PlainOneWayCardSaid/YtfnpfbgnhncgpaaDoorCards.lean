/-
  DERIVED. GIVEN WITH THE SEED: THE CARDS: each row of YtfnpfbgnhncgpaaDoorRows.lean that lists a variable, with what it lists TIED to the program's text (the seventh form; the later family's looks); each row that meets fmt, with fmt's text TOLD by the authors' own Lean function (tested against real Go, not proved from fmt's source: count such statements apart). THE CARD IS WHAT COUNTS. Prove the row's statement (the work); the ties are given (YtfnpfbgnhncgpaaDoorTie.lean); close each card by the builder's one call (the guide's Derived/Test/ToyasCard.lean, 'card_holds'). Laid BY PROGRAM, IN A SANDBOX (cutbox-door.mjs). By AI agents, Wed Nov 11 2026. No macro, syntax, notation, axiom, sorry.
-/
import Derived.Test.YtfnpfbgnhncgpaaDoorRows
import GoSem.ClaimSeven
namespace Go.Proofs.YtfnpfbgnhncgpaaDoor
namespace Rows

/-- THE TIED CARD OF 'foliantlaw02.FixTells'. -/
def fixTellsCard : Claim7 := { stood := { row := fixTellsRow, standIns := [], harness := (true, "6a0db80d054f03c78540297af593c2c5add2a84210e724b42e4883cfdd48ff72"), looks := true }, kinds := [], alts := [], laidByText := true, laidKinds := [.data, .pinned], laidTests := true, laidLooks := .later }
def FixTellsCardSaid : Prop := Claim7.holds Tryd.pinned (.plain (OpenSpec.ofChange fixTellsSpec)) fixTellsCard

/-- THE TIED CARD OF 'foliantlaw02.FixReckons'. -/
def fixReckonsCard : Claim7 := { stood := { row := fixReckonsRow, standIns := [], harness := (true, "6a0db80d054f03c78540297af593c2c5add2a84210e724b42e4883cfdd48ff72"), looks := true }, kinds := [], alts := [], laidByText := true, laidKinds := [.data, .pinned], laidTests := true, laidLooks := .later }
def FixReckonsCardSaid : Prop := Claim7.holds Tryd.pinned (.plain (OpenSpec.ofChange fixReckonsSpec)) fixReckonsCard

/-- THE TIED CARD OF 'foliantlaw02.FixBack'. -/
def fixBackCard : Claim7 := { stood := { row := fixBackRow, standIns := [], harness := (true, "6a0db80d054f03c78540297af593c2c5add2a84210e724b42e4883cfdd48ff72"), looks := true }, kinds := [], alts := [], laidByText := true, laidKinds := [.data, .pinned], laidTests := true, laidLooks := .later }
def FixBackCardSaid : Prop := Claim7.holds Tryd.pinned (.plain (OpenSpec.ofChange fixBackSpec)) fixBackCard

/-- THE TIED CARD OF 'foliantlaw02.FixNear'. -/
def fixNearCard : Claim7 := { stood := { row := fixNearRow, standIns := [], harness := (true, "6a0db80d054f03c78540297af593c2c5add2a84210e724b42e4883cfdd48ff72"), looks := true }, kinds := [], alts := [], laidByText := true, laidKinds := [.data, .pinned], laidTests := true, laidLooks := .later }
def FixNearCardSaid : Prop := Claim7.holds Tryd.pinned (.plain (OpenSpec.ofChange fixNearSpec)) fixNearCard

/-- THE TIED CARD OF 'foliantlaw02.FixTurns'. -/
def fixTurnsCard : Claim7 := { stood := { row := fixTurnsRow, standIns := [], harness := (true, "6a0db80d054f03c78540297af593c2c5add2a84210e724b42e4883cfdd48ff72"), looks := true }, kinds := [], alts := [], laidByText := true, laidKinds := [.data, .pinned], laidTests := true, laidLooks := .later }
def FixTurnsCardSaid : Prop := Claim7.holds Tryd.pinned (.plain (OpenSpec.ofChange fixTurnsSpec)) fixTurnsCard

/-- THE TIED CARD OF 'foliantlaw04.PlainTells'. -/
def plainTellsCard : Claim7 := { stood := { row := plainTellsRow, standIns := [], harness := (true, "6a0db80d054f03c78540297af593c2c5add2a84210e724b42e4883cfdd48ff72"), looks := true }, kinds := [], alts := [], laidByText := true, laidKinds := [.data, .data, .data, .data, .pinned], laidTests := true, laidLooks := .later }
def PlainTellsCardSaid : Prop := Claim7.holds Tryd.pinned (.plain (OpenSpec.ofChange plainTellsSpec)) plainTellsCard

/-- THE TIED CARD OF 'foliantlaw04.PlainOneWay'. -/
def plainOneWayCard : Claim7 := { stood := { row := plainOneWayRow, standIns := [], harness := (true, "6a0db80d054f03c78540297af593c2c5add2a84210e724b42e4883cfdd48ff72"), looks := true }, kinds := [], alts := [], laidByText := true, laidKinds := [.data, .data, .data, .data, .pinned], laidTests := true, laidLooks := .later }
def PlainOneWayCardSaid : Prop := Claim7.holds Tryd.pinned (.plain (OpenSpec.ofChange plainOneWaySpec)) plainOneWayCard

/-- THE TIED CARD OF 'foliantlaw04.PlainPads'. -/
def plainPadsCard : Claim7 := { stood := { row := plainPadsRow, standIns := [], harness := (true, "6a0db80d054f03c78540297af593c2c5add2a84210e724b42e4883cfdd48ff72"), looks := true }, kinds := [], alts := [], laidByText := true, laidKinds := [.data, .data, .data, .data, .pinned], laidTests := true, laidLooks := .later }
def PlainPadsCardSaid : Prop := Claim7.holds Tryd.pinned (.plain (OpenSpec.ofChange plainPadsSpec)) plainPadsCard

/-- THE TIED CARD OF 'foliantlaw07.WriteApart'. -/
def writeApartCard : Claim7 := { stood := { row := writeApartRow, standIns := [], harness := (true, "6a0db80d054f03c78540297af593c2c5add2a84210e724b42e4883cfdd48ff72"), looks := true }, kinds := [], alts := [], laidByText := true, laidKinds := [.data, .data, .data, .data, .pinned], laidTests := true, laidLooks := .later }
def WriteApartCardSaid : Prop := Claim7.holds Tryd.pinned (.plain (OpenSpec.ofChange writeApartSpec)) writeApartCard

/-- THE TIED CARD OF 'foliantlaw03.LexNext'. -/
def lexNextCard : Claim7 := { stood := { row := lexNextRow, standIns := [], harness := (true, "6a0db80d054f03c78540297af593c2c5add2a84210e724b42e4883cfdd48ff72"), looks := true }, kinds := [], alts := [], laidByText := true, laidKinds := [.data, .pinned], laidTests := true, laidLooks := .later }
def LexNextCardSaid : Prop := Claim7.holds Tryd.pinned (.plain (OpenSpec.ofChange lexNextSpec)) lexNextCard

/-- THE TIED CARD OF 'foliantlaw03.LexApart'. -/
def lexApartCard : Claim7 := { stood := { row := lexApartRow, standIns := [], harness := (true, "6a0db80d054f03c78540297af593c2c5add2a84210e724b42e4883cfdd48ff72"), looks := true }, kinds := [], alts := [], laidByText := true, laidKinds := [.data, .pinned], laidTests := true, laidLooks := .later }
def LexApartCardSaid : Prop := Claim7.holds Tryd.pinned (.plain (OpenSpec.ofChange lexApartSpec)) lexApartCard

/-- THE TIED CARD OF 'foliantlaw03.LexNumbers'. -/
def lexNumbersCard : Claim7 := { stood := { row := lexNumbersRow, standIns := [], harness := (true, "6a0db80d054f03c78540297af593c2c5add2a84210e724b42e4883cfdd48ff72"), looks := true }, kinds := [], alts := [], laidByText := true, laidKinds := [.data, .pinned], laidTests := true, laidLooks := .later }
def LexNumbersCardSaid : Prop := Claim7.holds Tryd.pinned (.plain (OpenSpec.ofChange lexNumbersSpec)) lexNumbersCard

/-- THE TIED CARD OF 'foliantlaw03.LexStrings'. -/
def lexStringsCard : Claim7 := { stood := { row := lexStringsRow, standIns := [], harness := (true, "6a0db80d054f03c78540297af593c2c5add2a84210e724b42e4883cfdd48ff72"), looks := true }, kinds := [], alts := [], laidByText := true, laidKinds := [.data, .pinned], laidTests := true, laidLooks := .later }
def LexStringsCardSaid : Prop := Claim7.holds Tryd.pinned (.plain (OpenSpec.ofChange lexStringsSpec)) lexStringsCard

/-- THE TIED CARD OF 'foliantlaw03.LexAll'. -/
def lexAllCard : Claim7 := { stood := { row := lexAllRow, standIns := [], harness := (true, "6a0db80d054f03c78540297af593c2c5add2a84210e724b42e4883cfdd48ff72"), looks := true }, kinds := [], alts := [], laidByText := true, laidKinds := [.data, .pinned], laidTests := true, laidLooks := .later }
def LexAllCardSaid : Prop := Claim7.holds Tryd.pinned (.plain (OpenSpec.ofChange lexAllSpec)) lexAllCard

/-- THE SECOND FORM's CARD OF 'foliantlaw02.FixTells'. -/
def fixTellsUptoCard : Claim7 := { stood := { row := fixTellsUptoRow, standIns := [], harness := (true, "6a0db80d054f03c78540297af593c2c5add2a84210e724b42e4883cfdd48ff72"), looks := true }, kinds := [], alts := [], laidByText := true, laidKinds := [.data, .pinned], laidTests := true, laidLooks := .later }
def FixTellsUptoCardSaid : Prop := Claim7.holds Tryd.pinned (.plain (OpenSpec.upto fixTellsSpec)) fixTellsUptoCard

/-- THE SECOND FORM's CARD OF 'foliantlaw02.FixReckons'. -/
def fixReckonsUptoCard : Claim7 := { stood := { row := fixReckonsUptoRow, standIns := [], harness := (true, "6a0db80d054f03c78540297af593c2c5add2a84210e724b42e4883cfdd48ff72"), looks := true }, kinds := [], alts := [], laidByText := true, laidKinds := [.data, .pinned], laidTests := true, laidLooks := .later }
def FixReckonsUptoCardSaid : Prop := Claim7.holds Tryd.pinned (.plain (OpenSpec.upto fixReckonsSpec)) fixReckonsUptoCard

/-- THE SECOND FORM's CARD OF 'foliantlaw02.FixBack'. -/
def fixBackUptoCard : Claim7 := { stood := { row := fixBackUptoRow, standIns := [], harness := (true, "6a0db80d054f03c78540297af593c2c5add2a84210e724b42e4883cfdd48ff72"), looks := true }, kinds := [], alts := [], laidByText := true, laidKinds := [.data, .pinned], laidTests := true, laidLooks := .later }
def FixBackUptoCardSaid : Prop := Claim7.holds Tryd.pinned (.plain (OpenSpec.upto fixBackSpec)) fixBackUptoCard

/-- THE SECOND FORM's CARD OF 'foliantlaw02.FixNear'. -/
def fixNearUptoCard : Claim7 := { stood := { row := fixNearUptoRow, standIns := [], harness := (true, "6a0db80d054f03c78540297af593c2c5add2a84210e724b42e4883cfdd48ff72"), looks := true }, kinds := [], alts := [], laidByText := true, laidKinds := [.data, .pinned], laidTests := true, laidLooks := .later }
def FixNearUptoCardSaid : Prop := Claim7.holds Tryd.pinned (.plain (OpenSpec.upto fixNearSpec)) fixNearUptoCard

/-- THE SECOND FORM's CARD OF 'foliantlaw02.FixTurns'. -/
def fixTurnsUptoCard : Claim7 := { stood := { row := fixTurnsUptoRow, standIns := [], harness := (true, "6a0db80d054f03c78540297af593c2c5add2a84210e724b42e4883cfdd48ff72"), looks := true }, kinds := [], alts := [], laidByText := true, laidKinds := [.data, .pinned], laidTests := true, laidLooks := .later }
def FixTurnsUptoCardSaid : Prop := Claim7.holds Tryd.pinned (.plain (OpenSpec.upto fixTurnsSpec)) fixTurnsUptoCard

/-- THE SECOND FORM's CARD OF 'foliantlaw04.PlainTells'. -/
def plainTellsUptoCard : Claim7 := { stood := { row := plainTellsUptoRow, standIns := [], harness := (true, "6a0db80d054f03c78540297af593c2c5add2a84210e724b42e4883cfdd48ff72"), looks := true }, kinds := [], alts := [], laidByText := true, laidKinds := [.data, .data, .data, .data, .pinned], laidTests := true, laidLooks := .later }
def PlainTellsUptoCardSaid : Prop := Claim7.holds Tryd.pinned (.plain (OpenSpec.upto plainTellsSpec)) plainTellsUptoCard

/-- THE SECOND FORM's CARD OF 'foliantlaw04.PlainOneWay'. -/
def plainOneWayUptoCard : Claim7 := { stood := { row := plainOneWayUptoRow, standIns := [], harness := (true, "6a0db80d054f03c78540297af593c2c5add2a84210e724b42e4883cfdd48ff72"), looks := true }, kinds := [], alts := [], laidByText := true, laidKinds := [.data, .data, .data, .data, .pinned], laidTests := true, laidLooks := .later }
def PlainOneWayUptoCardSaid : Prop := Claim7.holds Tryd.pinned (.plain (OpenSpec.upto plainOneWaySpec)) plainOneWayUptoCard

/-- THE SECOND FORM's CARD OF 'foliantlaw04.PlainPads'. -/
def plainPadsUptoCard : Claim7 := { stood := { row := plainPadsUptoRow, standIns := [], harness := (true, "6a0db80d054f03c78540297af593c2c5add2a84210e724b42e4883cfdd48ff72"), looks := true }, kinds := [], alts := [], laidByText := true, laidKinds := [.data, .data, .data, .data, .pinned], laidTests := true, laidLooks := .later }
def PlainPadsUptoCardSaid : Prop := Claim7.holds Tryd.pinned (.plain (OpenSpec.upto plainPadsSpec)) plainPadsUptoCard

/-- THE SECOND FORM's CARD OF 'foliantlaw07.WriteApart'. -/
def writeApartUptoCard : Claim7 := { stood := { row := writeApartUptoRow, standIns := [], harness := (true, "6a0db80d054f03c78540297af593c2c5add2a84210e724b42e4883cfdd48ff72"), looks := true }, kinds := [], alts := [], laidByText := true, laidKinds := [.data, .data, .data, .data, .pinned], laidTests := true, laidLooks := .later }
def WriteApartUptoCardSaid : Prop := Claim7.holds Tryd.pinned (.plain (OpenSpec.upto writeApartSpec)) writeApartUptoCard

/-- THE SECOND FORM's CARD OF 'foliantlaw03.LexNext'. -/
def lexNextUptoCard : Claim7 := { stood := { row := lexNextUptoRow, standIns := [], harness := (true, "6a0db80d054f03c78540297af593c2c5add2a84210e724b42e4883cfdd48ff72"), looks := true }, kinds := [], alts := [], laidByText := true, laidKinds := [.data, .pinned], laidTests := true, laidLooks := .later }
def LexNextUptoCardSaid : Prop := Claim7.holds Tryd.pinned (.plain (OpenSpec.upto lexNextSpec)) lexNextUptoCard

/-- THE SECOND FORM's CARD OF 'foliantlaw03.LexApart'. -/
def lexApartUptoCard : Claim7 := { stood := { row := lexApartUptoRow, standIns := [], harness := (true, "6a0db80d054f03c78540297af593c2c5add2a84210e724b42e4883cfdd48ff72"), looks := true }, kinds := [], alts := [], laidByText := true, laidKinds := [.data, .pinned], laidTests := true, laidLooks := .later }
def LexApartUptoCardSaid : Prop := Claim7.holds Tryd.pinned (.plain (OpenSpec.upto lexApartSpec)) lexApartUptoCard

/-- THE SECOND FORM's CARD OF 'foliantlaw03.LexNumbers'. -/
def lexNumbersUptoCard : Claim7 := { stood := { row := lexNumbersUptoRow, standIns := [], harness := (true, "6a0db80d054f03c78540297af593c2c5add2a84210e724b42e4883cfdd48ff72"), looks := true }, kinds := [], alts := [], laidByText := true, laidKinds := [.data, .pinned], laidTests := true, laidLooks := .later }
def LexNumbersUptoCardSaid : Prop := Claim7.holds Tryd.pinned (.plain (OpenSpec.upto lexNumbersSpec)) lexNumbersUptoCard

/-- THE SECOND FORM's CARD OF 'foliantlaw03.LexStrings'. -/
def lexStringsUptoCard : Claim7 := { stood := { row := lexStringsUptoRow, standIns := [], harness := (true, "6a0db80d054f03c78540297af593c2c5add2a84210e724b42e4883cfdd48ff72"), looks := true }, kinds := [], alts := [], laidByText := true, laidKinds := [.data, .pinned], laidTests := true, laidLooks := .later }
def LexStringsUptoCardSaid : Prop := Claim7.holds Tryd.pinned (.plain (OpenSpec.upto lexStringsSpec)) lexStringsUptoCard

/-- THE SECOND FORM's CARD OF 'foliantlaw03.LexAll'. -/
def lexAllUptoCard : Claim7 := { stood := { row := lexAllUptoRow, standIns := [], harness := (true, "6a0db80d054f03c78540297af593c2c5add2a84210e724b42e4883cfdd48ff72"), looks := true }, kinds := [], alts := [], laidByText := true, laidKinds := [.data, .pinned], laidTests := true, laidLooks := .later }
def LexAllUptoCardSaid : Prop := Claim7.holds Tryd.pinned (.plain (OpenSpec.upto lexAllSpec)) lexAllUptoCard
end Rows
end Go.Proofs.YtfnpfbgnhncgpaaDoor
