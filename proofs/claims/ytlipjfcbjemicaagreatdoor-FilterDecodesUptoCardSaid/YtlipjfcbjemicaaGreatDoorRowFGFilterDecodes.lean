/- Closed facts of the card of foliantlaw16.FilterDecodes: printed by law.py. -/
import Derived.Test.YtlipjfcbjemicaaGreatDoorFactsP
import Derived.SevenTiedAt
namespace Go.Proofs.YtlipjfcbjemicaaGreatDoor
set_option linter.unusedVariables false
set_option linter.unusedSimpArgs false
set_option linter.defProp false
namespace RowFilterDecodes
theorem goes : false = Rows.filterDecodesUptoRow.goesBy Tryz.pinned.checked.prog := by kernel_rfl
theorem wf : Rows.filterDecodesUptoRow.wfByText (Rows.OpenSpec.upto Rows.filterDecodesSpec) = true := by kernel_rfl
end RowFilterDecodes
end Go.Proofs.YtlipjfcbjemicaaGreatDoor
