/- Closed facts of the card of foliantlaw20.CrossReads: printed by law.py. -/
import Derived.Test.YtkghomgfocpgeaaGreatDoorFactsP
import Derived.Test.YtkghomgfocpgeaaGreatDoorGoesN
import Derived.SevenTiedAt
namespace Go.Proofs.YtkghomgfocpgeaaGreatDoor
set_option linter.unusedVariables false
set_option linter.unusedSimpArgs false
set_option linter.defProp false
namespace RowCrossReads
theorem goes : false = Rows.crossReadsUptoRow.goesBy Tryz.pinned.checked.prog := goesBy_none (by kernel_rfl) _
theorem wf : Rows.crossReadsUptoRow.wfByText (Rows.OpenSpec.upto Rows.crossReadsSpec) = true := by kernel_rfl
end RowCrossReads
end Go.Proofs.YtkghomgfocpgeaaGreatDoor
