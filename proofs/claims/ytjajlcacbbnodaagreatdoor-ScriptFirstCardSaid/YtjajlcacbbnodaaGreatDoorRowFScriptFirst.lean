/- Closed facts of the row of foliantlaw55.ScriptFirst: printed by law.py. -/
import Derived.Test.YtjajlcacbbnodaaGreatDoorFactsP
namespace Go.Proofs.YtjajlcacbbnodaaGreatDoor
set_option linter.unusedVariables false
set_option linter.unusedSimpArgs false
set_option linter.defProp false
namespace RowScriptFirst
theorem f_inPlace : (Rows.scriptFirstRow.inPlace == Tryz.pinned.checked.prog.inPlace 8) = true := by kernel_rfl
theorem f_unfollowed : (Rows.scriptFirstRow.unfollowed == Tryz.pinned.checked.prog.unfollowed 8) = true := by kernel_rfl
theorem f_recurses : (Rows.scriptFirstRow.recurses == Tryz.pinned.checked.prog.recurses 8) = true := by kernel_rfl
theorem f_named : (Rows.scriptFirstRow.named == Tryz.pinned.checked.prog.varsNamed 8) = true := by kernel_rfl
theorem f_plainKeys : (Rows.scriptFirstRow.plainKeys == Tryz.pinned.checked.prog.plainKeys) = true := by kernel_rfl
theorem f_lifted : (Rows.scriptFirstRow.lifted == Tryz.pinned.checked.prog.liftsFinal) = true := by kernel_rfl
theorem f_make : (Tryz.pinned.checked.prog.make == some Rows.scriptFirstRow.make) = true := by kernel_rfl
theorem closed : joinedFacts Tryz.pinned.checked.prog 8 Tryz.f8 (OpenSpec.ofChange Rows.scriptFirstSpec).bare Rows.scriptFirstRow = true := by
  simp only [joinedFacts, FactsP.laid, FactsP.maps, FactsP.stops, FactsP.knobs, FactsP.heard, FactsP.enter, f_inPlace, f_unfollowed, f_recurses, f_named, f_plainKeys, f_lifted, f_make, Bool.true_and, Bool.and_true]
  kernel_rfl
end RowScriptFirst
end Go.Proofs.YtjajlcacbbnodaaGreatDoor
