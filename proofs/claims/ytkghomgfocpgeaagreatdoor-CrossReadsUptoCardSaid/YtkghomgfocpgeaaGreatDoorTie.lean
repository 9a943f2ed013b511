/-
  DERIVED. GIVEN WITH THE SEED: THE PROGRAM's TIES (one call each: nine closed facts by the kernel) AND EACH ROW's TIE, after the 31st guide's Derived/Test/Toyas{Tie, Card}.lean. No idea stands in it: it is a product of the set-up. Laid BY PROGRAM, IN A SANDBOX (cutbox-door.mjs). By AI agents, Wed Nov 11 2026. No macro, syntax, notation, axiom, sorry.
-/
import Derived.Test.YtkghomgfocpgeaaGreatDoorRows
import Derived.LaidByTextLater
import Derived.SevenTiedAt
import Derived.LaidSub
import Derived.LaidOnce
namespace Go.Proofs.YtkghomgfocpgeaaGreatDoor
open Go
set_option maxRecDepth 100000
theorem seatTie1 : Tryz.prog.laidByTextLater [("foliant/inflate.order", Rows.laid_foliant_inflate_order), ("foliant/inflate.repeats", Rows.laid_foliant_inflate_repeats), ("foliant/ascii.powers", Rows.laid_foliant_ascii_powers)] [.widerDeep, .mapped, .widerDeep] true :=
  Program.laidByTextLater_by_one 42 8 20 (by kernel_rfl) (by kernel_rfl) (by kernel_rfl) (by kernel_rfl) (by kernel_rfl) (by kernel_rfl) (fun _ _ => by kernel_rfl)
theorem noOwnUnsafe : Tryz.pinned.checked.prog.headLifts.contains "ownunsafe" = false := by kernel_rfl
theorem tie : Tryz.prog.laidByTextLater [("foliant/inflate.order", Rows.laid_foliant_inflate_order), ("foliant/inflate.repeats", Rows.laid_foliant_inflate_repeats), ("foliant/ascii.powers", Rows.laid_foliant_ascii_powers)] [.widerDeep, .mapped, .widerDeep] true :=
  Program.laidByTextLater.sub seatTie1 ["foliant/inflate.order", "foliant/inflate.repeats", "foliant/ascii.powers"] (by kernel_rfl) (by kernel_rfl)
theorem crossReads_row_tie : Rows.crossReadsRow.laidByTextAt .later Tryz.pinned [.widerDeep, .mapped, .widerDeep] true :=
  OpenClaim.laidByTextAt_later rfl rfl tie noOwnUnsafe
theorem crossReadsUpto_row_tie : Rows.crossReadsUptoRow.laidByTextAt .later Tryz.pinned [.widerDeep, .mapped, .widerDeep] true :=
  OpenClaim.laidByTextAt_later rfl rfl tie noOwnUnsafe
end Go.Proofs.YtkghomgfocpgeaaGreatDoor
