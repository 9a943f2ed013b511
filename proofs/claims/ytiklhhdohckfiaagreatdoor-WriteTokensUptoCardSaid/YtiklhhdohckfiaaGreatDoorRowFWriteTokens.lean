/- Closed facts of the row of foliantlaw07.WriteTokens: printed by law.py. -/
import Derived.Test.YtiklhhdohckfiaaGreatDoorFactsP
namespace Go.Proofs.YtiklhhdohckfiaaGreatDoor
set_option linter.unusedVariables false
set_option linter.unusedSimpArgs false
set_option linter.defProp false
namespace RowWriteTokens
theorem f_inPlace : (Rows.writeTokensUptoRow.inPlace == Tryz.pinned.checked.prog.inPlace 5) = true := by kernel_rfl
theorem f_unfollowed : (Rows.writeTokensUptoRow.unfollowed == Tryz.pinned.checked.prog.unfollowed 5) = true := by kernel_rfl
theorem f_recurses : (Rows.writeTokensUptoRow.recurses == Tryz.pinned.checked.prog.recurses 5) = true := by kernel_rfl
theorem f_named : (Rows.writeTokensUptoRow.named == Tryz.pinned.checked.prog.varsNamed 5) = true := by kernel_rfl
theorem f_plainKeys : (Rows.writeTokensUptoRow.plainKeys == Tryz.pinned.checked.prog.plainKeys) = true := by kernel_rfl
theorem f_lifted : (Rows.writeTokensUptoRow.lifted == Tryz.pinned.checked.prog.liftsFinal) = true := by kernel_rfl
theorem f_make : (Tryz.pinned.checked.prog.make == some Rows.writeTokensUptoRow.make) = true := by kernel_rfl
theorem closed : joinedFacts Tryz.pinned.checked.prog 5 Tryz.f5 (Rows.OpenSpec.upto Rows.writeTokensSpec).bare Rows.writeTokensUptoRow = true := by
  simp only [joinedFacts, FactsP.laid, FactsP.maps, FactsP.stops, FactsP.knobs, FactsP.heard, FactsP.enter, f_inPlace, f_unfollowed, f_recurses, f_named, f_plainKeys, f_lifted, f_make, Bool.true_and, Bool.and_true]
  kernel_rfl
end RowWriteTokens
end Go.Proofs.YtiklhhdohckfiaaGreatDoor
