/- Closed facts of the card of foliantlaw16.FilterOne: printed by law.py. -/
import Derived.Test.YtlipjfcbjemicaaGreatDoorFactsP
import Derived.SevenTiedAt
namespace Go.Proofs.YtlipjfcbjemicaaGreatDoor
set_option linter.unusedVariables false
set_option linter.unusedSimpArgs false
set_option linter.defProp false
namespace RowFilterOne
theorem goes : false = Rows.filterOneRow.goesBy Tryz.pinned.checked.prog := by kernel_rfl
theorem wf : Rows.filterOneRow.wfByText (OpenSpec.ofChange Rows.filterOneSpec) = true := by kernel_rfl
end RowFilterOne
end Go.Proofs.YtlipjfcbjemicaaGreatDoor
