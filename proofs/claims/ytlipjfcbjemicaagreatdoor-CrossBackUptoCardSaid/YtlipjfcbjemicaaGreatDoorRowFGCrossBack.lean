/- Closed facts of the card of foliantlaw20.CrossBack: printed by law.py. -/
import Derived.Test.YtlipjfcbjemicaaGreatDoorFactsP
import Derived.SevenTiedAt
namespace Go.Proofs.YtlipjfcbjemicaaGreatDoor
set_option linter.unusedVariables false
set_option linter.unusedSimpArgs false
set_option linter.defProp false
namespace RowCrossBack
theorem goes : false = Rows.crossBackUptoRow.goesBy Tryz.pinned.checked.prog := by kernel_rfl
theorem wf : Rows.crossBackUptoRow.wfByText (Rows.OpenSpec.upto Rows.crossBackSpec) = true := by kernel_rfl
end RowCrossBack
end Go.Proofs.YtlipjfcbjemicaaGreatDoor
