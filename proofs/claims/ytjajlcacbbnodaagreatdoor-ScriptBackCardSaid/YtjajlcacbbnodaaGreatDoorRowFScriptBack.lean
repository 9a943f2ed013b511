/- Closed facts of the row of foliantlaw55.ScriptBack: printed by law.py. -/
import Derived.Test.YtjajlcacbbnodaaGreatDoorFactsP
namespace Go.Proofs.YtjajlcacbbnodaaGreatDoor
set_option linter.unusedVariables false
set_option linter.unusedSimpArgs false
set_option linter.defProp false
namespace RowScriptBack
theorem f_inPlace : (Rows.scriptBackRow.inPlace == Tryz.pinned.checked.prog.inPlace 7) = true := by kernel_rfl
theorem f_unfollowed : (Rows.scriptBackRow.unfollowed == Tryz.pinned.checked.prog.unfollowed 7) = true := by kernel_rfl
theorem f_recurses : (Rows.scriptBackRow.recurses == Tryz.pinned.checked.prog.recurses 7) = true := by kernel_rfl
theorem f_named : (Rows.scriptBackRow.named == Tryz.pinned.checked.prog.varsNamed 7) = true := by kernel_rfl
theorem f_plainKeys : (Rows.scriptBackRow.plainKeys == Tryz.pinned.checked.prog.plainKeys) = true := by kernel_rfl
theorem f_lifted : (Rows.scriptBackRow.lifted == Tryz.pinned.checked.prog.liftsFinal) = true := by kernel_rfl
theorem f_make : (Tryz.pinned.checked.prog.make == some Rows.scriptBackRow.make) = true := by kernel_rfl
theorem closed : joinedFacts Tryz.pinned.checked.prog 7 Tryz.f7 (OpenSpec.ofChange Rows.scriptBackSpec).bare Rows.scriptBackRow = true := by
  simp only [joinedFacts, FactsP.laid, FactsP.maps, FactsP.stops, FactsP.knobs, FactsP.heard, FactsP.enter, f_inPlace, f_unfollowed, f_recurses, f_named, f_plainKeys, f_lifted, f_make, Bool.true_and, Bool.and_true]
  kernel_rfl
end RowScriptBack
end Go.Proofs.YtjajlcacbbnodaaGreatDoor
