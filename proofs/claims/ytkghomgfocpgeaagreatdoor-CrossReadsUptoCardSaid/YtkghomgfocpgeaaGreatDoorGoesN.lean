/- A program in which no function starts a goroutine: no call of it does (the closure of the call need not be reckoned). -/
import Derived.Test.YtkghomgfocpgeaaGreatDoorRows
import GoSem.ClaimGoes
import Derived.KernelRfl
namespace Go.Proofs.YtkghomgfocpgeaaGreatDoor
set_option linter.unusedVariables false
set_option linter.unusedSimpArgs false
set_option linter.defProp false
open Go
theorem goes_none {P : Program} (h : P.funcs.any Func.goes = false) (f : FuncId) : P.goes f = false := by
  have hf : ∀ g : FuncId, ((P.funcs[g]?).any Func.goes) = false := by
    intro g
    cases hg : P.funcs[g]? with
    | none => rfl
    | some fn =>
      have := Array.any_eq_false.1 h
      obtain ⟨hi, e⟩ := Array.getElem?_eq_some_iff.1 hg
      have := this g hi
      rw [e] at this
      simpa using this
  unfold Program.goes
  rw [h, Bool.and_false, Bool.or_false]
  simp [hf]
theorem goesBy_none {P : Program} (h : P.funcs.any Func.goes = false) (c : OpenClaim) : false = c.goesBy P := by
  unfold OpenClaim.goesBy Program.goesAt Program.goesFrom
  have h1 : ∀ o : Option FuncId, o.any P.goes = false := by
    intro o; cases o with
    | none => rfl
    | some f => exact goes_none h f
  rw [h1, Bool.false_or]
  cases c.start <;> simp [goes_none h]
end Go.Proofs.YtkghomgfocpgeaaGreatDoor
