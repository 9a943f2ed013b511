/- The engine's words for single operations, each by the model's own dispatch, its operands numbered anew. -/
import Derived.Test.YtfnpfbgnhncgpaaDoorEngB
namespace Go.Proofs.YtfnpfbgnhncgpaaDoor
set_option linter.unusedVariables false
set_option linter.unusedSimpArgs false
set_option linter.defProp false
set_option linter.unusedSimpArgs false
set_option linter.unusedVariables false
namespace Eng

def bodyOf (fn : Func) : Code := fn.body.getD .skip
def dfrV (v : Value) (args : Array Value) : Option Deferred :=
  match v with
  | .func fn first captured => some { target := .fn fn captured, args := first ++ args }
  | _ => none
/-- The ways out of a function without deferred calls, by a panic; with some. -/
def pk (K : Ending → World → Prop) : List PanicEntry → World → Prop := fun c w => K (.panicked c) w
def pd (P : Program) (rs : List RV) (K : Ending → World → Prop) (ds : List Deferred) : List PanicEntry → World → Prop := fun c w => Leave P rs K ds (.panicking c) w
/-- Whatever a slot holds that is already taken. -/
def pm1 (PK : List PanicEntry → World → Prop) : List PanicEntry → World → Prop := fun c w => ∀ _ : Value, PK c w

def sndOf : Code → Code
  | .seq _ b => b
  | c => c
/- DEFERRED CALLS: a body that begins with 'recover()'; a body without it. -/
/-- What recover hands back in a frame below that is in mode u, and the mode behind. -/
def recV : FrameMode → Value
  | .panicking ({ v, recovered := false, goexit := false } :: _) => v
  | _ => .nilIface
def recM : FrameMode → FrameMode
  | .panicking ({ v, recovered := false, goexit := false } :: older) => .panicking ({ v, recovered := true } :: older)
  | u => u
def topD (P : Program) (rs : List ResultVar) (K : Ending → World → Prop) : Ex
  | .normal, σ, [], w => RetD P (rvOf σ rs) w K
  | .ret, σ, [], w => RetD P (rvOf σ rs) w K
  | .panic c, _, [], w => K (.panicked c) w
  | _, _, _, _ => False
theorem rec_eq (c₀ : Frame) (cs : List Frame) : (match recoverD (c₀ :: cs) with
    | some (v, cs') => (v, cs')
    | none => (.nilIface, c₀ :: cs)) = (recV c₀.mode, { c₀ with mode := recM c₀.mode } :: cs) := by
  have e0 : ({ c₀ with mode := c₀.mode } : Frame) = c₀ := rfl
  cases hm : c₀.mode with
  | run => simp [recoverD, recV, recM, hm]; rw [← hm]
  | returning => simp [recoverD, recV, recM, hm]; rw [← hm]
  | panicking ch =>
    cases ch with
    | nil => simp [recoverD, recV, recM, hm]; rw [← hm]
    | cons e older =>
      obtain ⟨v, r, g⟩ := e
      cases r <;> cases g <;> simp [recoverD, recV, recM, hm] <;> rw [← hm]
theorem callsD_recover {P : Program} {f : FuncId} {fn : Func} {id : Nat} {o : Oper} {rest : Code} {args : List Value} {u : FrameMode} {w : World} {R : Ending → FrameMode → World → Prop} {n d : Nat} {aj al : List (Nat × List Nat)} {rs : List ResultVar}
    (hf : P.funcs[f]? = some fn) (hb : fn.body = some (.seq (.region id #[o] false) rest)) (ho : o.op = .call { callee := .builtin .recover, args := #[], argTypes := #[] }) (hg : o.guard = none) (hd : o.dst = some d) (hdn : Nat.blt d n = true)
    (hn : fn.ntmps = n) (hrs : fn.results.toList = rs) (hl : Nat.ble args.length n = true)
    (h : wpX P n aj al rest (topD P rs (fun e w' => R e (recM u) w')) (upd (startX args) d (recV u)) [] w) : CallsD P f args.toArray u w R := by
  refine callsD_of_wpS hf hb fun c₀ cs hu => ?_
  rw [hn]
  refine wpS_seq (wpS_region ?_)
  have hex : ∀ ρ : Operand → Value, (execOp ρ o).run P w = .ok .recover w := by
    intro ρ
    unfold execOp
    rw [ho]
    simp [resolve, invoke, builtin, bind, pure, Sem.bind, Sem.run]
  have hrep := start_rep (args := args) hl
  have hput : Rep n (upd (startX args) d (recV u)) (({ tmps := args.toArray ++ Array.replicate (n - args.toArray.size) undef, defers := [] } : Act).put o.dst (recV u)).tmps := by
    rw [hd]; exact Rep.put (a := { tmps := args.toArray ++ Array.replicate (n - args.toArray.size) undef, defers := [] }) hrep (d := some d) hdn (recV u)
  have key : Exit.thenS (rest.wpS P (bodyPostS P fn c₀ cs R)) (bodyPostS P fn c₀ cs R) .normal (({ tmps := args.toArray ++ Array.replicate (n - args.toArray.size) undef, defers := [] } : Act).put o.dst (recV u)) ({ c₀ with mode := recM u } :: cs) w := by
    refine wpS_of_wp (Code.wp_mono ?_ (wpX_sound rest _ _ _ w hput (by rw [hd]; exact h)))
    rintro e a w' ⟨σ, hr, hk⟩
    have hdd : ∀ K : Ending → World → Prop, RetD P (rvOf σ rs) w' K → ∃ v, (results fn a.tmps).run P w' = .ok v w' ∧ K (.returned v) w' := fun K hk => by
      rw [results_eq hr, hrs]; exact retX_iff hk
    generalize hds : a.defers = ds at hk
    cases e <;> cases ds <;> first | (exact hk.elim; done) | skip
    · obtain ⟨v, h1, h2⟩ := hdd (fun e w' => R e (recM u) w') hk; exact ⟨hds, recM u, rfl, v, h1, h2⟩
    · obtain ⟨v, h1, h2⟩ := hdd (fun e w' => R e (recM u) w') hk; exact ⟨hds, recM u, rfl, v, h1, h2⟩
    · exact ⟨hds, recM u, rfl, hk⟩
  have e := rec_eq c₀ cs
  rw [hu] at e
  show wpOpsS P #[o] _ [0] _ (c₀ :: cs) w
  unfold wpOpsS
  simp only [List.getElem?_toArray, List.getElem?_cons_zero]
  rw [if_pos (by simp [Region.wanted, hg])]
  rw [hex]
  cases hrc : recoverD (c₀ :: cs) with
  | none =>
    rw [hrc] at e
    simp only [Prod.mk.injEq] at e
    simp only [wpOpsS]
    rw [e.1, e.2]; exact key
  | some x =>
    obtain ⟨v, cs'⟩ := x
    rw [hrc] at e
    simp only [Prod.mk.injEq] at e
    simp only [wpOpsS]
    rw [e.1, e.2]; exact key
theorem callsD_plain {P : Program} {f : FuncId} {fn : Func} {c : Code} {args : List Value} {u : FrameMode} {w : World} {R : Ending → World → Prop} {n : Nat} {aj al : List (Nat × List Nat)} {rs : List ResultVar}
    (hf : P.funcs[f]? = some fn) (hb : fn.body = some c) (hn : fn.ntmps = n) (hrs : fn.results.toList = rs) (hl : Nat.ble args.length n = true)
    (h : wpX P n aj al c (topD P rs R) (startX args) [] w) : CallsD P f args.toArray u w (fun e u' w' => u' = u ∧ R e w') := by
  refine callsD_of_wp hf hb ?_
  rw [hn]
  refine Code.wp_mono ?_ (wpX_sound c _ (startX args) _ w (start_rep hl) h)
  rintro e a w' ⟨σ, hr, hk⟩
  have hdd : ∀ K : Ending → World → Prop, RetD P (rvOf σ rs) w' K → ∃ v, (results fn a.tmps).run P w' = .ok v w' ∧ K (.returned v) w' := fun K hk => by
    rw [results_eq hr, hrs]; exact retX_iff hk
  generalize hds : a.defers = ds at hk
  cases e <;> cases ds <;> first | (exact hk.elim; done) | skip
  · exact ⟨hds, hdd _ hk⟩
  · exact ⟨hds, hdd _ hk⟩
  · exact ⟨hds, hk⟩
end Eng
end Go.Proofs.YtfnpfbgnhncgpaaDoor
