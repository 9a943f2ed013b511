/- Closed facts of the seat's program, one theorem each. -/
import Derived.Test.YtiklhhdohckfiaaDoorRows
import Derived.JoinedCond
namespace Go.Proofs.YtiklhhdohckfiaaDoor
set_option linter.unusedVariables false
set_option linter.unusedSimpArgs false
set_option linter.defProp false
namespace FactsP
theorem laid : laidOutB Tryd.pinned.checked.prog = true := by kernel_rfl
theorem maps : mapsRowed Tryd.pinned.checked.prog = true := by kernel_rfl
theorem stops : (Tryd.pinned.checked.prog.stops == []) = true := by kernel_rfl
theorem knobs : (Tryd.pinned.checked.prog.stopKnobs == []) = true := by kernel_rfl
theorem heard : Tryd.pinned.checked.prog.stopsHeard = true := by kernel_rfl
theorem enter : Tryd.pinned.checked.prog.mayEnter = true := by kernel_rfl
end FactsP
end Go.Proofs.YtiklhhdohckfiaaDoor
