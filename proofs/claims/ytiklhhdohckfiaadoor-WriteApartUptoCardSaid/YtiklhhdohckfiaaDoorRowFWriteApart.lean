/- Closed facts of the row of foliantlaw07.WriteApart: printed by law.py. -/
import Derived.Test.YtiklhhdohckfiaaDoorFactsP
namespace Go.Proofs.YtiklhhdohckfiaaDoor
set_option linter.unusedVariables false
set_option linter.unusedSimpArgs false
set_option linter.defProp false
namespace RowWriteApart
theorem f_inPlace : (Rows.writeApartUptoRow.inPlace == Tryd.pinned.checked.prog.inPlace 3) = true := by kernel_rfl
theorem f_unfollowed : (Rows.writeApartUptoRow.unfollowed == Tryd.pinned.checked.prog.unfollowed 3) = true := by kernel_rfl
theorem f_recurses : (Rows.writeApartUptoRow.recurses == Tryd.pinned.checked.prog.recurses 3) = true := by kernel_rfl
theorem f_named : (Rows.writeApartUptoRow.named == Tryd.pinned.checked.prog.varsNamed 3) = true := by kernel_rfl
theorem f_plainKeys : (Rows.writeApartUptoRow.plainKeys == Tryd.pinned.checked.prog.plainKeys) = true := by kernel_rfl
theorem f_lifted : (Rows.writeApartUptoRow.lifted == Tryd.pinned.checked.prog.liftsFinal) = true := by kernel_rfl
theorem f_make : (Tryd.pinned.checked.prog.make == some Rows.writeApartUptoRow.make) = true := by kernel_rfl
theorem closed : joinedFacts Tryd.pinned.checked.prog 3 Tryd.f3 (Rows.OpenSpec.upto Rows.writeApartSpec).bare Rows.writeApartUptoRow = true := by
  simp only [joinedFacts, FactsP.laid, FactsP.maps, FactsP.stops, FactsP.knobs, FactsP.heard, FactsP.enter, f_inPlace, f_unfollowed, f_recurses, f_named, f_plainKeys, f_lifted, f_make, Bool.true_and, Bool.and_true]
  kernel_rfl
end RowWriteApart
end Go.Proofs.YtiklhhdohckfiaaDoor
