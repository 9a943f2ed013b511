/- Closed facts of the row of foliantlaw43.OpsJoin: printed by law.py. -/
import Derived.Test.YtoofficgclghoaaGreatDoorFactsP
namespace Go.Proofs.YtoofficgclghoaaGreatDoor
set_option linter.unusedVariables false
set_option linter.unusedSimpArgs false
set_option linter.defProp false
namespace RowOpsJoin
theorem f_inPlace : (Rows.opsJoinRow.inPlace == Tryz.pinned.checked.prog.inPlace 6) = true := by kernel_rfl
theorem f_unfollowed : (Rows.opsJoinRow.unfollowed == Tryz.pinned.checked.prog.unfollowed 6) = true := by kernel_rfl
theorem f_recurses : (Rows.opsJoinRow.recurses == Tryz.pinned.checked.prog.recurses 6) = true := by kernel_rfl
theorem f_named : (Rows.opsJoinRow.named == Tryz.pinned.checked.prog.varsNamed 6) = true := by kernel_rfl
theorem f_plainKeys : (Rows.opsJoinRow.plainKeys == Tryz.pinned.checked.prog.plainKeys) = true := by kernel_rfl
theorem f_lifted : (Rows.opsJoinRow.lifted == Tryz.pinned.checked.prog.liftsFinal) = true := by kernel_rfl
theorem f_make : (Tryz.pinned.checked.prog.make == some Rows.opsJoinRow.make) = true := by kernel_rfl
theorem closed : joinedFacts Tryz.pinned.checked.prog 6 Tryz.f6 (OpenSpec.ofChange Rows.opsJoinSpec).bare Rows.opsJoinRow = true := by
  simp only [joinedFacts, FactsP.laid, FactsP.maps, FactsP.stops, FactsP.knobs, FactsP.heard, FactsP.enter, f_inPlace, f_unfollowed, f_recurses, f_named, f_plainKeys, f_lifted, f_make, Bool.true_and, Bool.and_true]
  kernel_rfl
end RowOpsJoin
end Go.Proofs.YtoofficgclghoaaGreatDoor
