/- Closed facts of the card of foliantlaw16.FilterMakes: printed by law.py. -/
import Derived.Test.YtlipjfcbjemicaaGreatDoorFactsP
import Derived.SevenTiedAt
namespace Go.Proofs.YtlipjfcbjemicaaGreatDoor
set_option linter.unusedVariables false
set_option linter.unusedSimpArgs false
set_option linter.defProp false
namespace RowFilterMakes
theorem goes : false = Rows.filterMakesUptoRow.goesBy Tryz.pinned.checked.prog := by kernel_rfl
theorem wf : Rows.filterMakesUptoRow.wfByText (Rows.OpenSpec.upto Rows.filterMakesSpec) = true := by kernel_rfl
end RowFilterMakes
end Go.Proofs.YtlipjfcbjemicaaGreatDoor
