/-
  DERIVED. GIVEN WITH THE SEED: THE CARDS: each row of YtlipjfcbjemicaaGreatDoorRows.lean that lists a variable, with what it lists TIED to the program's text (the seventh form; the later family's looks); each row that meets fmt, with fmt's text TOLD by the authors' own Lean function (tested against real Go, not proved from fmt's source: count such statements apart). THE CARD IS WHAT COUNTS. Prove the row's statement (the work); the ties are given (YtlipjfcbjemicaaGreatDoorTie.lean); close each card by the builder's one call (the guide's Derived/Test/ToyasCard.lean, 'card_holds'). Laid BY PROGRAM, IN A SANDBOX (cutbox-door.mjs). By AI agents, Wed Nov 11 2026. No macro, syntax, notation, axiom, sorry.
-/
import Derived.Test.YtlipjfcbjemicaaGreatDoorRows
import GoSem.ClaimSeven
namespace Go.Proofs.YtlipjfcbjemicaaGreatDoor
namespace Rows

/-- THE TIED CARD OF 'foliantlaw16.FilterDecodes'. -/
def filterDecodesCard : Claim7 := { stood := { row := filterDecodesRow, standIns := [], harness := (true, "4e5f53731d308e175f337c70bb75d631f545f7f275a41b220c19d031e82b2c15"), looks := true }, kinds := [], alts := [], laidByText := true, laidKinds := [.widerDeep, .mapped, .widerDeep], laidTests := true, laidLooks := .later }
def FilterDecodesCardSaid : Prop := Claim7.holds Tryz.pinned (.plain (OpenSpec.ofChange filterDecodesSpec)) filterDecodesCard

/-- THE TIED CARD OF 'foliantlaw16.FilterOne'. -/
def filterOneCard : Claim7 := { stood := { row := filterOneRow, standIns := [], harness := (true, "4e5f53731d308e175f337c70bb75d631f545f7f275a41b220c19d031e82b2c15"), looks := true }, kinds := [], alts := [], laidByText := true, laidKinds := [.widerDeep, .mapped, .widerDeep], laidTests := true, laidLooks := .later }
def FilterOneCardSaid : Prop := Claim7.holds Tryz.pinned (.plain (OpenSpec.ofChange filterOneSpec)) filterOneCard

/-- THE TIED CARD OF 'foliantlaw16.FilterEncodes'. -/
def filterEncodesCard : Claim7 := { stood := { row := filterEncodesRow, standIns := [], harness := (true, "4e5f53731d308e175f337c70bb75d631f545f7f275a41b220c19d031e82b2c15"), looks := true }, kinds := [], alts := [], laidByText := true, laidKinds := [.widerDeep, .mapped, .widerDeep], laidTests := true, laidLooks := .later }
def FilterEncodesCardSaid : Prop := Claim7.holds Tryz.pinned (.plain (OpenSpec.ofChange filterEncodesSpec)) filterEncodesCard

/-- THE TIED CARD OF 'foliantlaw16.FilterMakes'. -/
def filterMakesCard : Claim7 := { stood := { row := filterMakesRow, standIns := [], harness := (true, "4e5f53731d308e175f337c70bb75d631f545f7f275a41b220c19d031e82b2c15"), looks := true }, kinds := [], alts := [], laidByText := true, laidKinds := [.widerDeep, .mapped, .widerDeep], laidTests := true, laidLooks := .later }
def FilterMakesCardSaid : Prop := Claim7.holds Tryz.pinned (.plain (OpenSpec.ofChange filterMakesSpec)) filterMakesCard

/-- THE TIED CARD OF 'foliantlaw20.CrossReads'. -/
def crossReadsCard : Claim7 := { stood := { row := crossReadsRow, standIns := [], harness := (true, "4e5f53731d308e175f337c70bb75d631f545f7f275a41b220c19d031e82b2c15"), looks := true }, kinds := [], alts := [], laidByText := true, laidKinds := [.widerDeep, .mapped, .widerDeep], laidTests := true, laidLooks := .later }
def CrossReadsCardSaid : Prop := Claim7.holds Tryz.pinned (.plain (OpenSpec.ofChange crossReadsSpec)) crossReadsCard

/-- THE TIED CARD OF 'foliantlaw20.CrossMakes'. -/
def crossMakesCard : Claim7 := { stood := { row := crossMakesRow, standIns := [], harness := (true, "4e5f53731d308e175f337c70bb75d631f545f7f275a41b220c19d031e82b2c15"), looks := true }, kinds := [], alts := [], laidByText := true, laidKinds := [.widerDeep, .mapped, .widerDeep], laidTests := true, laidLooks := .later }
def CrossMakesCardSaid : Prop := Claim7.holds Tryz.pinned (.plain (OpenSpec.ofChange crossMakesSpec)) crossMakesCard

/-- THE TIED CARD OF 'foliantlaw20.CrossBack'. -/
def crossBackCard : Claim7 := { stood := { row := crossBackRow, standIns := [], harness := (true, "4e5f53731d308e175f337c70bb75d631f545f7f275a41b220c19d031e82b2c15"), looks := true }, kinds := [], alts := [], laidByText := true, laidKinds := [.widerDeep, .mapped, .widerDeep], laidTests := true, laidLooks := .later }
def CrossBackCardSaid : Prop := Claim7.holds Tryz.pinned (.plain (OpenSpec.ofChange crossBackSpec)) crossBackCard

/-- THE TIED CARD OF 'foliantlaw20.CrossWidths'. -/
def crossWidthsCard : Claim7 := { stood := { row := crossWidthsRow, standIns := [], harness := (true, "4e5f53731d308e175f337c70bb75d631f545f7f275a41b220c19d031e82b2c15"), looks := true }, kinds := [], alts := [], laidByText := true, laidKinds := [.widerDeep, .mapped, .widerDeep], laidTests := true, laidLooks := .later }
def CrossWidthsCardSaid : Prop := Claim7.holds Tryz.pinned (.plain (OpenSpec.ofChange crossWidthsSpec)) crossWidthsCard

/-- THE SECOND FORM's CARD OF 'foliantlaw16.FilterDecodes'. -/
def filterDecodesUptoCard : Claim7 := { stood := { row := filterDecodesUptoRow, standIns := [], harness := (true, "4e5f53731d308e175f337c70bb75d631f545f7f275a41b220c19d031e82b2c15"), looks := true }, kinds := [], alts := [], laidByText := true, laidKinds := [.widerDeep, .mapped, .widerDeep], laidTests := true, laidLooks := .later }
def FilterDecodesUptoCardSaid : Prop := Claim7.holds Tryz.pinned (.plain (OpenSpec.upto filterDecodesSpec)) filterDecodesUptoCard

/-- THE SECOND FORM's CARD OF 'foliantlaw16.FilterOne'. -/
def filterOneUptoCard : Claim7 := { stood := { row := filterOneUptoRow, standIns := [], harness := (true, "4e5f53731d308e175f337c70bb75d631f545f7f275a41b220c19d031e82b2c15"), looks := true }, kinds := [], alts := [], laidByText := true, laidKinds := [.widerDeep, .mapped, .widerDeep], laidTests := true, laidLooks := .later }
def FilterOneUptoCardSaid : Prop := Claim7.holds Tryz.pinned (.plain (OpenSpec.upto filterOneSpec)) filterOneUptoCard

/-- THE SECOND FORM's CARD OF 'foliantlaw16.FilterEncodes'. -/
def filterEncodesUptoCard : Claim7 := { stood := { row := filterEncodesUptoRow, standIns := [], harness := (true, "4e5f53731d308e175f337c70bb75d631f545f7f275a41b220c19d031e82b2c15"), looks := true }, kinds := [], alts := [], laidByText := true, laidKinds := [.widerDeep, .mapped, .widerDeep], laidTests := true, laidLooks := .later }
def FilterEncodesUptoCardSaid : Prop := Claim7.holds Tryz.pinned (.plain (OpenSpec.upto filterEncodesSpec)) filterEncodesUptoCard

/-- THE SECOND FORM's CARD OF 'foliantlaw16.FilterMakes'. -/
def filterMakesUptoCard : Claim7 := { stood := { row := filterMakesUptoRow, standIns := [], harness := (true, "4e5f53731d308e175f337c70bb75d631f545f7f275a41b220c19d031e82b2c15"), looks := true }, kinds := [], alts := [], laidByText := true, laidKinds := [.widerDeep, .mapped, .widerDeep], laidTests := true, laidLooks := .later }
def FilterMakesUptoCardSaid : Prop := Claim7.holds Tryz.pinned (.plain (OpenSpec.upto filterMakesSpec)) filterMakesUptoCard

/-- THE SECOND FORM's CARD OF 'foliantlaw20.CrossReads'. -/
def crossReadsUptoCard : Claim7 := { stood := { row := crossReadsUptoRow, standIns := [], harness := (true, "4e5f53731d308e175f337c70bb75d631f545f7f275a41b220c19d031e82b2c15"), looks := true }, kinds := [], alts := [], laidByText := true, laidKinds := [.widerDeep, .mapped, .widerDeep], laidTests := true, laidLooks := .later }
def CrossReadsUptoCardSaid : Prop := Claim7.holds Tryz.pinned (.plain (OpenSpec.upto crossReadsSpec)) crossReadsUptoCard

/-- THE SECOND FORM's CARD OF 'foliantlaw20.CrossMakes'. -/
def crossMakesUptoCard : Claim7 := { stood := { row := crossMakesUptoRow, standIns := [], harness := (true, "4e5f53731d308e175f337c70bb75d631f545f7f275a41b220c19d031e82b2c15"), looks := true }, kinds := [], alts := [], laidByText := true, laidKinds := [.widerDeep, .mapped, .widerDeep], laidTests := true, laidLooks := .later }
def CrossMakesUptoCardSaid : Prop := Claim7.holds Tryz.pinned (.plain (OpenSpec.upto crossMakesSpec)) crossMakesUptoCard

/-- THE SECOND FORM's CARD OF 'foliantlaw20.CrossBack'. -/
def crossBackUptoCard : Claim7 := { stood := { row := crossBackUptoRow, standIns := [], harness := (true, "4e5f53731d308e175f337c70bb75d631f545f7f275a41b220c19d031e82b2c15"), looks := true }, kinds := [], alts := [], laidByText := true, laidKinds := [.widerDeep, .mapped, .widerDeep], laidTests := true, laidLooks := .later }
def CrossBackUptoCardSaid : Prop := Claim7.holds Tryz.pinned (.plain (OpenSpec.upto crossBackSpec)) crossBackUptoCard

/-- THE SECOND FORM's CARD OF 'foliantlaw20.CrossWidths'. -/
def crossWidthsUptoCard : Claim7 := { stood := { row := crossWidthsUptoRow, standIns := [], harness := (true, "4e5f53731d308e175f337c70bb75d631f545f7f275a41b220c19d031e82b2c15"), looks := true }, kinds := [], alts := [], laidByText := true, laidKinds := [.widerDeep, .mapped, .widerDeep], laidTests := true, laidLooks := .later }
def CrossWidthsUptoCardSaid : Prop := Claim7.holds Tryz.pinned (.plain (OpenSpec.upto crossWidthsSpec)) crossWidthsUptoCard
end Rows
end Go.Proofs.YtlipjfcbjemicaaGreatDoor
