/- Closed facts of the row of foliantlaw07.WriteMany: printed by law.py. -/
import Derived.Test.YtiklhhdohckfiaaGreatDoorFactsP
namespace Go.Proofs.YtiklhhdohckfiaaGreatDoor
set_option linter.unusedVariables false
set_option linter.unusedSimpArgs false
set_option linter.defProp false
namespace RowWriteMany
theorem f_inPlace : (Rows.writeManyUptoRow.inPlace == Tryz.pinned.checked.prog.inPlace 4) = true := by kernel_rfl
theorem f_unfollowed : (Rows.writeManyUptoRow.unfollowed == Tryz.pinned.checked.prog.unfollowed 4) = true := by kernel_rfl
theorem f_recurses : (Rows.writeManyUptoRow.recurses == Tryz.pinned.checked.prog.recurses 4) = true := by kernel_rfl
theorem f_named : (Rows.writeManyUptoRow.named == Tryz.pinned.checked.prog.varsNamed 4) = true := by kernel_rfl
theorem f_plainKeys : (Rows.writeManyUptoRow.plainKeys == Tryz.pinned.checked.prog.plainKeys) = true := by kernel_rfl
theorem f_lifted : (Rows.writeManyUptoRow.lifted == Tryz.pinned.checked.prog.liftsFinal) = true := by kernel_rfl
theorem f_make : (Tryz.pinned.checked.prog.make == some Rows.writeManyUptoRow.make) = true := by kernel_rfl
theorem closed : joinedFacts Tryz.pinned.checked.prog 4 Tryz.f4 (Rows.OpenSpec.upto Rows.writeManySpec).bare Rows.writeManyUptoRow = true := by
  simp only [joinedFacts, FactsP.laid, FactsP.maps, FactsP.stops, FactsP.knobs, FactsP.heard, FactsP.enter, f_inPlace, f_unfollowed, f_recurses, f_named, f_plainKeys, f_lifted, f_make, Bool.true_and, Bool.and_true]
  kernel_rfl
end RowWriteMany
end Go.Proofs.YtiklhhdohckfiaaGreatDoor
