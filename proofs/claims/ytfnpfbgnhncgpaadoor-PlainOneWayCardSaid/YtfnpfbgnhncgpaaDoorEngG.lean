/- The engine's rules for guarded operations whose guard is not known: values, without a split of the ways. -/
import Derived.Test.YtfnpfbgnhncgpaaDoorEngD
namespace Go.Proofs.YtfnpfbgnhncgpaaDoor
set_option linter.unusedVariables false
set_option linter.unusedSimpArgs false
set_option linter.defProp false
set_option linter.unusedSimpArgs false
set_option linter.unusedVariables false
namespace Eng
open Go.RowKit

/-- x where c holds. -/
def sel (c : Bool) (x : Value) : Value := bc c x undef
theorem sel_t {x : Value} : sel true x = x := rfl
theorem sel_f {x : Value} : sel false x = undef := rfl
section
variable {P : Program} {w : World} {PK : List PanicEntry → World → Prop} {K : Value → World → Prop}
theorem g_move {v x : Value} {want : Bool} : GDo v want (fun E => E x w) w K = K (sel (wants v want) x) w := by
  refine propext ⟨fun h => ?_, fun h => ⟨?_⟩⟩
  · have := h.out
    cases hw : wants v want <;> rw [hw] at this <;> exact this
  · cases hw : wants v want <;> rw [hw] at h <;> exact h
theorem g_congr {v v' : Value} {want c : Bool} {E E' : (Value → World → Prop) → Prop} (hv : v = v') (hc : wants v' want = c) (h : c = true → ∀ K0, E K0 = E' K0) : GDo v want E w K = GDo v' want E' w K := by
  subst hv
  refine propext ⟨fun x => ⟨?_⟩, fun x => ⟨?_⟩⟩
  · have := x.out
    subst hc
    cases hw : wants v want with
    | false => rw [hw] at this; exact this
    | true => rw [hw, bc_true] at this; rw [bc_true, ← h hw]; exact this
  · have := x.out
    subst hc
    cases hw : wants v want with
    | false => rw [hw] at this; exact this
    | true => rw [hw, bc_true] at this; rw [bc_true, h hw]; exact this
theorem wants_t {b : Bool} : wants (.bool b) true = b := by cases b <;> rfl
theorem wants_f {b : Bool} : wants (.bool b) false = !b := by cases b <;> rfl
theorem wants_st {c y : Bool} : wants (sel c (.bool y)) true = (c && y) := by cases c <;> cases y <;> rfl
theorem wants_sf {c y : Bool} : wants (sel c (.bool y)) false = (c && !y) := by cases c <;> cases y <;> rfl
theorem b_tand {b : Bool} : (true && b) = b := rfl
theorem b_andt {b : Bool} : (b && true) = b := by cases b <;> rfl
theorem pick_and {b y : Bool} : DoX P (mPick (.bool b) (sel b (.bool y)) (.bool false)) w PK K = K (.bool (b && y)) w := by
  rw [p_pick]; cases b <;> rfl
theorem pick_or {b y : Bool} : DoX P (mPick (.bool b) (.bool true) (sel (!b) (.bool y))) w PK K = K (.bool (b || y)) w := by
  rw [p_pick]; cases b <;> rfl
theorem run_eq_bool {T : TypeId} {a b : Bool} (h : P.underlying T = some .bool) : (Op.equal T (.bool a) (.bool b)).run P w = .ok (a == b) w := by
  show (Op.equalIn (9999 + 1) T (.bool a) (.bool b)).run P w = _
  rw [Op.equalIn]
  simp [run_underlying h]
theorem e_bool {T : TypeId} {xo yo : Operand} {a b : Bool} (h : P.underlying T = some .bool) : DoX P (mEq .eql T xo yo (.bool a) (.bool b)) w PK K = K (.bool (a == b)) w := mv_do (by simp [eqGuard, binOp, run_eq_bool h])
theorem n_bool {T : TypeId} {xo yo : Operand} {a b : Bool} (h : P.underlying T = some .bool) : DoX P (mEq .neq T xo yo (.bool a) (.bool b)) w PK K = K (.bool (!(a == b))) w := mv_do (by simp [eqGuard, binOp, run_eq_bool h])
end
/-- For 'simp only [rs, gs]' with 'attribute [local congr] g_congr'. -/
def gs := And.intro @g_move (And.intro @wants_t (And.intro @wants_f (And.intro @pick_and (And.intro @pick_or (And.intro @sel_t (And.intro @sel_f (And.intro @wants_st (And.intro @wants_sf (And.intro @b_tand @b_andt)))))))))
end Eng
end Go.Proofs.YtfnpfbgnhncgpaaDoor
