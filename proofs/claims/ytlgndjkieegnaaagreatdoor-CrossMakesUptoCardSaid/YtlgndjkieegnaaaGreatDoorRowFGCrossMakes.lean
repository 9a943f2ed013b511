/- Closed facts of the card of foliantlaw20.CrossMakes: printed by law.py. -/
import Derived.Test.YtlgndjkieegnaaaGreatDoorFactsP
import Derived.SevenTiedAt
namespace Go.Proofs.YtlgndjkieegnaaaGreatDoor
set_option linter.unusedVariables false
set_option linter.unusedSimpArgs false
set_option linter.defProp false
namespace RowCrossMakes
theorem goes : false = Rows.crossMakesUptoRow.goesBy Tryz.pinned.checked.prog := by kernel_rfl
theorem wf : Rows.crossMakesUptoRow.wfByText (Rows.OpenSpec.upto Rows.crossMakesSpec) = true := by kernel_rfl
end RowCrossMakes
end Go.Proofs.YtlgndjkieegnaaaGreatDoor
