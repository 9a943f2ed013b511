/- Closed facts of the row of foliantlaw18.TableReads: printed by law.py. -/
import Derived.Test.YtjloddgofmdmgaaGreatDoorFactsP
namespace Go.Proofs.YtjloddgofmdmgaaGreatDoor
set_option linter.unusedVariables false
set_option linter.unusedSimpArgs false
set_option linter.defProp false
namespace RowTableReads
theorem f_inPlace : (Rows.tableReadsRow.inPlace == Tryz.pinned.checked.prog.inPlace 3) = true := by kernel_rfl
theorem f_unfollowed : (Rows.tableReadsRow.unfollowed == Tryz.pinned.checked.prog.unfollowed 3) = true := by kernel_rfl
theorem f_recurses : (Rows.tableReadsRow.recurses == Tryz.pinned.checked.prog.recurses 3) = true := by kernel_rfl
theorem f_named : (Rows.tableReadsRow.named == Tryz.pinned.checked.prog.varsNamed 3) = true := by kernel_rfl
theorem f_plainKeys : (Rows.tableReadsRow.plainKeys == Tryz.pinned.checked.prog.plainKeys) = true := by kernel_rfl
theorem f_lifted : (Rows.tableReadsRow.lifted == Tryz.pinned.checked.prog.liftsFinal) = true := by kernel_rfl
theorem f_make : (Tryz.pinned.checked.prog.make == some Rows.tableReadsRow.make) = true := by kernel_rfl
theorem closed : joinedFacts Tryz.pinned.checked.prog 3 Tryz.f3 (OpenSpec.ofChange Rows.tableReadsSpec).bare Rows.tableReadsRow = true := by
  simp only [joinedFacts, FactsP.laid, FactsP.maps, FactsP.stops, FactsP.knobs, FactsP.heard, FactsP.enter, f_inPlace, f_unfollowed, f_recurses, f_named, f_plainKeys, f_lifted, f_make, Bool.true_and, Bool.and_true]
  kernel_rfl
end RowTableReads
end Go.Proofs.YtjloddgofmdmgaaGreatDoor
