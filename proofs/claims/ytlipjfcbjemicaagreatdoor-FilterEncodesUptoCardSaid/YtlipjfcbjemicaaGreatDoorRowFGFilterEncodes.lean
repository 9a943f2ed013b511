/- Closed facts of the card of foliantlaw16.FilterEncodes: printed by law.py. -/
import Derived.Test.YtlipjfcbjemicaaGreatDoorFactsP
import Derived.SevenTiedAt
namespace Go.Proofs.YtlipjfcbjemicaaGreatDoor
set_option linter.unusedVariables false
set_option linter.unusedSimpArgs false
set_option linter.defProp false
namespace RowFilterEncodes
theorem goes : false = Rows.filterEncodesUptoRow.goesBy Tryz.pinned.checked.prog := by kernel_rfl
theorem wf : Rows.filterEncodesUptoRow.wfByText (Rows.OpenSpec.upto Rows.filterEncodesSpec) = true := by kernel_rfl
end RowFilterEncodes
end Go.Proofs.YtlipjfcbjemicaaGreatDoor
