/-
  DERIVED. GIVEN WITH THE SEED: THE CARDS: each row of YtoobidofdpdkbaaGreatDoorRows.lean that lists a variable, with what it lists TIED to the program's text (the seventh form; the later family's looks); each row that meets fmt, with fmt's text TOLD by the authors' own Lean function (tested against real Go, not proved from fmt's source: count such statements apart). THE CARD IS WHAT COUNTS. Prove the row's statement (the work); the ties are given (YtoobidofdpdkbaaGreatDoorTie.lean); close each card by the builder's one call (the guide's Derived/Test/ToyasCard.lean, 'card_holds'). Laid BY PROGRAM, IN A SANDBOX (cutbox-door.mjs). By AI agents, Wed Nov 11 2026. No macro, syntax, notation, axiom, sorry.
-/
import Derived.Test.YtoobidofdpdkbaaGreatDoorRows
import GoSem.ClaimSeven
namespace Go.Proofs.YtoobidofdpdkbaaGreatDoor
namespace Rows

/-- THE TIED CARD OF 'foliantlaw35.PagesList'. -/
def pagesListCard : Claim7 := { stood := { row := pagesListRow, standIns := [], harness := (true, "f33d26f69027521ba826bb4a0633c48024289afe856656d91bbc52467d9b4be4"), looks := true }, kinds := [], alts := [], laidByText := true, laidKinds := [.widerDeep, .mapped, .widerDeep], laidTests := true, laidLooks := .later }
def PagesListCardSaid : Prop := Claim7.holds Tryz.pinned (.plain (OpenSpec.ofChange pagesListSpec)) pagesListCard

/-- THE TIED CARD OF 'foliantlaw35.PagesRect'. -/
def pagesRectCard : Claim7 := { stood := { row := pagesRectRow, standIns := [], harness := (true, "f33d26f69027521ba826bb4a0633c48024289afe856656d91bbc52467d9b4be4"), looks := true }, kinds := [], alts := [], laidByText := true, laidKinds := [.widerDeep, .mapped, .widerDeep], laidTests := true, laidLooks := .later }
def PagesRectCardSaid : Prop := Claim7.holds Tryz.pinned (.plain (OpenSpec.ofChange pagesRectSpec)) pagesRectCard

/-- THE TIED CARD OF 'foliantlaw35.PagesEach'. -/
def pagesEachCard : Claim7 := { stood := { row := pagesEachRow, standIns := [], harness := (true, "f33d26f69027521ba826bb4a0633c48024289afe856656d91bbc52467d9b4be4"), looks := true }, kinds := [], alts := [], laidByText := true, laidKinds := [.widerDeep, .mapped, .widerDeep], laidTests := true, laidLooks := .later }
def PagesEachCardSaid : Prop := Claim7.holds Tryz.pinned (.plain (OpenSpec.ofChange pagesEachSpec)) pagesEachCard

/-- THE TIED CARD OF 'foliantlaw35.PagesOwn'. -/
def pagesOwnCard : Claim7 := { stood := { row := pagesOwnRow, standIns := [], harness := (true, "f33d26f69027521ba826bb4a0633c48024289afe856656d91bbc52467d9b4be4"), looks := true }, kinds := [], alts := [], laidByText := true, laidKinds := [.widerDeep, .mapped, .widerDeep], laidTests := true, laidLooks := .later }
def PagesOwnCardSaid : Prop := Claim7.holds Tryz.pinned (.plain (OpenSpec.ofChange pagesOwnSpec)) pagesOwnCard

/-- THE TIED CARD OF 'foliantlaw35.PagesText'. -/
def pagesTextCard : Claim7 := { stood := { row := pagesTextRow, standIns := [], harness := (true, "f33d26f69027521ba826bb4a0633c48024289afe856656d91bbc52467d9b4be4"), looks := true }, kinds := [], alts := [], laidByText := true, laidKinds := [.widerDeep, .mapped, .widerDeep], laidTests := true, laidLooks := .later }
def PagesTextCardSaid : Prop := Claim7.holds Tryz.pinned (.plain (OpenSpec.ofChange pagesTextSpec)) pagesTextCard

/-- THE SECOND FORM's CARD OF 'foliantlaw35.PagesList'. -/
def pagesListUptoCard : Claim7 := { stood := { row := pagesListUptoRow, standIns := [], harness := (true, "f33d26f69027521ba826bb4a0633c48024289afe856656d91bbc52467d9b4be4"), looks := true }, kinds := [], alts := [], laidByText := true, laidKinds := [.widerDeep, .mapped, .widerDeep], laidTests := true, laidLooks := .later }
def PagesListUptoCardSaid : Prop := Claim7.holds Tryz.pinned (.plain (OpenSpec.upto pagesListSpec)) pagesListUptoCard

/-- THE SECOND FORM's CARD OF 'foliantlaw35.PagesRect'. -/
def pagesRectUptoCard : Claim7 := { stood := { row := pagesRectUptoRow, standIns := [], harness := (true, "f33d26f69027521ba826bb4a0633c48024289afe856656d91bbc52467d9b4be4"), looks := true }, kinds := [], alts := [], laidByText := true, laidKinds := [.widerDeep, .mapped, .widerDeep], laidTests := true, laidLooks := .later }
def PagesRectUptoCardSaid : Prop := Claim7.holds Tryz.pinned (.plain (OpenSpec.upto pagesRectSpec)) pagesRectUptoCard

/-- THE SECOND FORM's CARD OF 'foliantlaw35.PagesEach'. -/
def pagesEachUptoCard : Claim7 := { stood := { row := pagesEachUptoRow, standIns := [], harness := (true, "f33d26f69027521ba826bb4a0633c48024289afe856656d91bbc52467d9b4be4"), looks := true }, kinds := [], alts := [], laidByText := true, laidKinds := [.widerDeep, .mapped, .widerDeep], laidTests := true, laidLooks := .later }
def PagesEachUptoCardSaid : Prop := Claim7.holds Tryz.pinned (.plain (OpenSpec.upto pagesEachSpec)) pagesEachUptoCard

/-- THE SECOND FORM's CARD OF 'foliantlaw35.PagesOwn'. -/
def pagesOwnUptoCard : Claim7 := { stood := { row := pagesOwnUptoRow, standIns := [], harness := (true, "f33d26f69027521ba826bb4a0633c48024289afe856656d91bbc52467d9b4be4"), looks := true }, kinds := [], alts := [], laidByText := true, laidKinds := [.widerDeep, .mapped, .widerDeep], laidTests := true, laidLooks := .later }
def PagesOwnUptoCardSaid : Prop := Claim7.holds Tryz.pinned (.plain (OpenSpec.upto pagesOwnSpec)) pagesOwnUptoCard

/-- THE SECOND FORM's CARD OF 'foliantlaw35.PagesText'. -/
def pagesTextUptoCard : Claim7 := { stood := { row := pagesTextUptoRow, standIns := [], harness := (true, "f33d26f69027521ba826bb4a0633c48024289afe856656d91bbc52467d9b4be4"), looks := true }, kinds := [], alts := [], laidByText := true, laidKinds := [.widerDeep, .mapped, .widerDeep], laidTests := true, laidLooks := .later }
def PagesTextUptoCardSaid : Prop := Claim7.holds Tryz.pinned (.plain (OpenSpec.upto pagesTextSpec)) pagesTextUptoCard
end Rows
end Go.Proofs.YtoobidofdpdkbaaGreatDoor
