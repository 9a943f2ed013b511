/- Closed facts of the card of foliantlaw20.CrossWidths: printed by law.py. -/
import Derived.Test.YtlipjfcbjemicaaGreatDoorFactsP
import Derived.SevenTiedAt
namespace Go.Proofs.YtlipjfcbjemicaaGreatDoor
set_option linter.unusedVariables false
set_option linter.unusedSimpArgs false
set_option linter.defProp false
namespace RowCrossWidths
theorem goes : false = Rows.crossWidthsRow.goesBy Tryz.pinned.checked.prog := by kernel_rfl
theorem wf : Rows.crossWidthsRow.wfByText (OpenSpec.ofChange Rows.crossWidthsSpec) = true := by kernel_rfl
end RowCrossWidths
end Go.Proofs.YtlipjfcbjemicaaGreatDoor
