/- Closed facts of the row of foliantlaw20.CrossWidths: printed by law.py. -/
import Derived.Test.YtlipjfcbjemicaaGreatDoorFactsP
namespace Go.Proofs.YtlipjfcbjemicaaGreatDoor
set_option linter.unusedVariables false
set_option linter.unusedSimpArgs false
set_option linter.defProp false
namespace RowCrossWidths
theorem f_inPlace : (Rows.crossWidthsRow.inPlace == Tryz.pinned.checked.prog.inPlace 10) = true := by kernel_rfl
theorem f_unfollowed : (Rows.crossWidthsRow.unfollowed == Tryz.pinned.checked.prog.unfollowed 10) = true := by kernel_rfl
theorem f_recurses : (Rows.crossWidthsRow.recurses == Tryz.pinned.checked.prog.recurses 10) = true := by kernel_rfl
theorem f_named : (Rows.crossWidthsRow.named == Tryz.pinned.checked.prog.varsNamed 10) = true := by kernel_rfl
theorem f_plainKeys : (Rows.crossWidthsRow.plainKeys == Tryz.pinned.checked.prog.plainKeys) = true := by kernel_rfl
theorem f_lifted : (Rows.crossWidthsRow.lifted == Tryz.pinned.checked.prog.liftsFinal) = true := by kernel_rfl
theorem f_make : (Tryz.pinned.checked.prog.make == some Rows.crossWidthsRow.make) = true := by kernel_rfl
theorem closed : joinedFacts Tryz.pinned.checked.prog 10 Tryz.f10 (OpenSpec.ofChange Rows.crossWidthsSpec).bare Rows.crossWidthsRow = true := by
  simp only [joinedFacts, FactsP.laid, FactsP.maps, FactsP.stops, FactsP.knobs, FactsP.heard, FactsP.enter, f_inPlace, f_unfollowed, f_recurses, f_named, f_plainKeys, f_lifted, f_make, Bool.true_and, Bool.and_true]
  kernel_rfl
end RowCrossWidths
end Go.Proofs.YtlipjfcbjemicaaGreatDoor
