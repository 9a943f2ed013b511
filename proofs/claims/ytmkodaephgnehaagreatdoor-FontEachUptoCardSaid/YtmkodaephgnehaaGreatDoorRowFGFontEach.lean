/- Closed facts of the card of foliantlaw47.FontEach: printed by law.py. -/
import Derived.Test.YtmkodaephgnehaaGreatDoorFactsP
import Derived.Test.YtmkodaephgnehaaGreatDoorGoesN
import Derived.SevenTiedAt
namespace Go.Proofs.YtmkodaephgnehaaGreatDoor
set_option linter.unusedVariables false
set_option linter.unusedSimpArgs false
set_option linter.defProp false
namespace RowFontEach
theorem goes : false = Rows.fontEachUptoRow.goesBy Tryz.pinned.checked.prog := goesBy_none (by kernel_rfl) _
theorem wf : Rows.fontEachUptoRow.wfByText (Rows.OpenSpec.upto Rows.fontEachSpec) = true := by kernel_rfl
end RowFontEach
end Go.Proofs.YtmkodaephgnehaaGreatDoor
