/-
  DERIVED. GIVEN WITH THE SEED: THE PROGRAM's TIES (one call each: nine closed facts by the kernel) AND EACH ROW's TIE, after the 31st guide's Derived/Test/Toyas{Tie, Card}.lean. No idea stands in it: it is a product of the set-up. Laid BY PROGRAM, IN A SANDBOX (cutbox-door.mjs). By AI agents, Wed Nov 11 2026. No macro, syntax, notation, axiom, sorry.
-/
import Derived.Test.YtoobidofdpdkbaaGreatDoorRows
import Derived.LaidByTextLater
import Derived.SevenTiedAt
import Derived.LaidSub
import Derived.LaidOnce
namespace Go.Proofs.YtoobidofdpdkbaaGreatDoor
open Go
set_option maxRecDepth 100000
theorem seatTie1 : Tryz.prog.laidByTextLater [("foliant/inflate.order", Rows.laid_foliant_inflate_order), ("foliant/inflate.repeats", Rows.laid_foliant_inflate_repeats), ("foliant/ascii.powers", Rows.laid_foliant_ascii_powers)] [.widerDeep, .mapped, .widerDeep] true :=
  Program.laidByTextLater_by_one 42 8 20 (by kernel_rfl) (by kernel_rfl) (by kernel_rfl) (by kernel_rfl) (by kernel_rfl) (by kernel_rfl) (fun _ _ => by kernel_rfl)
theorem noOwnUnsafe : Tryz.pinned.checked.prog.headLifts.contains "ownunsafe" = false := by kernel_rfl
theorem tie : Tryz.prog.laidByTextLater [("foliant/inflate.order", Rows.laid_foliant_inflate_order), ("foliant/inflate.repeats", Rows.laid_foliant_inflate_repeats), ("foliant/ascii.powers", Rows.laid_foliant_ascii_powers)] [.widerDeep, .mapped, .widerDeep] true :=
  Program.laidByTextLater.sub seatTie1 ["foliant/inflate.order", "foliant/inflate.repeats", "foliant/ascii.powers"] (by kernel_rfl) (by kernel_rfl)
theorem pagesList_row_tie : Rows.pagesListRow.laidByTextAt .later Tryz.pinned [.widerDeep, .mapped, .widerDeep] true :=
  OpenClaim.laidByTextAt_later rfl rfl tie noOwnUnsafe
theorem pagesRect_row_tie : Rows.pagesRectRow.laidByTextAt .later Tryz.pinned [.widerDeep, .mapped, .widerDeep] true :=
  OpenClaim.laidByTextAt_later rfl rfl tie noOwnUnsafe
theorem pagesEach_row_tie : Rows.pagesEachRow.laidByTextAt .later Tryz.pinned [.widerDeep, .mapped, .widerDeep] true :=
  OpenClaim.laidByTextAt_later rfl rfl tie noOwnUnsafe
theorem pagesOwn_row_tie : Rows.pagesOwnRow.laidByTextAt .later Tryz.pinned [.widerDeep, .mapped, .widerDeep] true :=
  OpenClaim.laidByTextAt_later rfl rfl tie noOwnUnsafe
theorem pagesText_row_tie : Rows.pagesTextRow.laidByTextAt .later Tryz.pinned [.widerDeep, .mapped, .widerDeep] true :=
  OpenClaim.laidByTextAt_later rfl rfl tie noOwnUnsafe
theorem pagesListUpto_row_tie : Rows.pagesListUptoRow.laidByTextAt .later Tryz.pinned [.widerDeep, .mapped, .widerDeep] true :=
  OpenClaim.laidByTextAt_later rfl rfl tie noOwnUnsafe
theorem pagesRectUpto_row_tie : Rows.pagesRectUptoRow.laidByTextAt .later Tryz.pinned [.widerDeep, .mapped, .widerDeep] true :=
  OpenClaim.laidByTextAt_later rfl rfl tie noOwnUnsafe
theorem pagesEachUpto_row_tie : Rows.pagesEachUptoRow.laidByTextAt .later Tryz.pinned [.widerDeep, .mapped, .widerDeep] true :=
  OpenClaim.laidByTextAt_later rfl rfl tie noOwnUnsafe
theorem pagesOwnUpto_row_tie : Rows.pagesOwnUptoRow.laidByTextAt .later Tryz.pinned [.widerDeep, .mapped, .widerDeep] true :=
  OpenClaim.laidByTextAt_later rfl rfl tie noOwnUnsafe
theorem pagesTextUpto_row_tie : Rows.pagesTextUptoRow.laidByTextAt .later Tryz.pinned [.widerDeep, .mapped, .widerDeep] true :=
  OpenClaim.laidByTextAt_later rfl rfl tie noOwnUnsafe
end Go.Proofs.YtoobidofdpdkbaaGreatDoor
