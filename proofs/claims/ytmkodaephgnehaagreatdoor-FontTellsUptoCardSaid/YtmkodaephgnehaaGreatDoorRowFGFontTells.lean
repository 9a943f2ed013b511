/- Closed facts of the card of foliantlaw47.FontTells: printed by law.py. -/
import Derived.Test.YtmkodaephgnehaaGreatDoorFactsP
import Derived.Test.YtmkodaephgnehaaGreatDoorGoesN
import Derived.SevenTiedAt
namespace Go.Proofs.YtmkodaephgnehaaGreatDoor
set_option linter.unusedVariables false
set_option linter.unusedSimpArgs false
set_option linter.defProp false
namespace RowFontTells
theorem goes : false = Rows.fontTellsUptoRow.goesBy Tryz.pinned.checked.prog := goesBy_none (by kernel_rfl) _
theorem wf : Rows.fontTellsUptoRow.wfByText (Rows.OpenSpec.upto Rows.fontTellsSpec) = true := by kernel_rfl
end RowFontTells
end Go.Proofs.YtmkodaephgnehaaGreatDoor
