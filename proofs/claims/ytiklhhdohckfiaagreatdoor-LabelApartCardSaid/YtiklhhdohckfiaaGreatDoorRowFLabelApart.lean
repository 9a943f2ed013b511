/- Closed facts of the row of foliantlaw38.LabelApart: printed by law.py. -/
import Derived.Test.YtiklhhdohckfiaaGreatDoorFactsP
namespace Go.Proofs.YtiklhhdohckfiaaGreatDoor
set_option linter.unusedVariables false
set_option linter.unusedSimpArgs false
set_option linter.defProp false
namespace RowLabelApart
theorem f_inPlace : (Rows.labelApartRow.inPlace == Tryz.pinned.checked.prog.inPlace 10) = true := by kernel_rfl
theorem f_unfollowed : (Rows.labelApartRow.unfollowed == Tryz.pinned.checked.prog.unfollowed 10) = true := by kernel_rfl
theorem f_recurses : (Rows.labelApartRow.recurses == Tryz.pinned.checked.prog.recurses 10) = true := by kernel_rfl
theorem f_named : (Rows.labelApartRow.named == Tryz.pinned.checked.prog.varsNamed 10) = true := by kernel_rfl
theorem f_plainKeys : (Rows.labelApartRow.plainKeys == Tryz.pinned.checked.prog.plainKeys) = true := by kernel_rfl
theorem f_lifted : (Rows.labelApartRow.lifted == Tryz.pinned.checked.prog.liftsFinal) = true := by kernel_rfl
theorem f_make : (Tryz.pinned.checked.prog.make == some Rows.labelApartRow.make) = true := by kernel_rfl
theorem closed : joinedFacts Tryz.pinned.checked.prog 10 Tryz.f10 (OpenSpec.ofChange Rows.labelApartSpec).bare Rows.labelApartRow = true := by
  simp only [joinedFacts, FactsP.laid, FactsP.maps, FactsP.stops, FactsP.knobs, FactsP.heard, FactsP.enter, f_inPlace, f_unfollowed, f_recurses, f_named, f_plainKeys, f_lifted, f_make, Bool.true_and, Bool.and_true]
  kernel_rfl
end RowLabelApart
end Go.Proofs.YtiklhhdohckfiaaGreatDoor
