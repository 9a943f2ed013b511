/- The engine: a Go function's code as a proposition in continuation form (slots as a function of their number), and its soundness against the model's calculus. No program in sight. -/
import Derived.WalkKit
import Derived.Deep.Quiet
import Derived.Recover
import Derived.StillTail
import Derived.Test.YtfnpfbgnhncgpaaDoorEngN
namespace Go.Proofs.YtfnpfbgnhncgpaaDoor
set_option linter.unusedVariables false
set_option linter.unusedSimpArgs false
set_option linter.defProp false
set_option linter.unusedSimpArgs false
set_option linter.unusedVariables false
namespace Eng
open Go.RowKit

abbrev Sg := Nat → Value
/-- A branch on a Bool; the kernel opens it at once. -/
abbrev bc {α : Sort _} (b : Bool) (x y : α) : α := match b with | true => x | false => y
theorem bc_true {α : Sort _} {x y : α} : bc true x y = x := rfl
theorem bc_false {α : Sort _} {x y : α} : bc false x y = y := rfl
def upd (σ : Sg) (d : Nat) (v : Value) : Sg := fun i => bc (Nat.beq i d) v (σ i)
def put (σ : Sg) : Option Nat → Value → Sg
  | some d, v => upd σ d v
  | none, _ => σ
def rd (σ : Sg) : Operand → Value
  | .tmp t => σ t
  | .const v => v
  | .global g => .pointer (some ⟨g, 0, none⟩)
  | .func f => .func (.func f) #[] #[]
def inB (n : Nat) : Option Nat → Bool
  | some d => Nat.blt d n
  | none => true

structure Rep (n : Nat) (σ : Sg) (t : Array Value) : Prop where
  size : t.size = n
  get : ∀ i, t.getD i undef = σ i

theorem Rep.put {n : Nat} {σ : Sg} {a : Act} (h : Rep n σ a.tmps) {d : Option Nat} (hd : inB n d = true) (v : Value) : Rep n (put σ d v) (a.put d v).tmps := by
  cases d with
  | none => exact h
  | some d =>
    have hd' : d < a.tmps.size := by rw [h.size]; simpa [inB, Nat.blt_eq] using hd
    refine ⟨by simpa [Act.put] using h.size, fun i => ?_⟩
    have := h.get i
    simp only [Act.put, Eng.put, upd]
    by_cases hi : i = d
    · subst hi
      simp [hd']
    · have hb : Nat.beq i d = false := by
        cases hb : Nat.beq i d
        · rfl
        · exact absurd (Nat.eq_of_beq_eq_true hb) hi
      rw [hb, bc_false, ← this]
      simp [Array.getD_eq_getD_getElem?, Ne.symm hi]

theorem Rep.eval {n : Nat} {σ : Sg} {a : Act} (h : Rep n σ a.tmps) : a.eval = rd σ := by
  funext x
  cases x with
  | tmp t => exact h.get t
  | _ => rfl

/-- The continuation behind a call. -/
def Cont (K : Value → World → Prop) (PK : List PanicEntry → World → Prop) : Ending → World → Prop
  | .returned v, w => K v w
  | .panicked c, w => PK c w
  | .outgrown, _ => False

/- The words below are structures: the kernel never opens them when it compares. -/
structure CallX (P : Program) (f : Nat) (args : Array Value) (w : World) (PK : List PanicEntry → World → Prop) (K : Value → World → Prop) : Prop where
  mk ::
  out : Calls P f args w (Cont K PK)


def Upon (P : Program) (r : Result Next) (K : Value → World → Prop) (PK : List PanicEntry → World → Prop) : Prop :=
  match r with
  | .ok (.value v) w => K v w
  | .ok .skip w => K undef w
  | .ok (.enter f args) w => CallX P f args w PK K
  | .halt (.panic v) w => PK [{ v, recovered := false }] w
  | _ => False

structure DoX (P : Program) (m : Sem Next) (w : World) (PK : List PanicEntry → World → Prop) (K : Value → World → Prop) : Prop where
  mk ::
  out : Upon P (m.run P w) K PK


/-- A plain call of a function with a Go body. -/
def plainB (P : Program) (f : Nat) : Bool :=
  match P.funcs[f]? with
  | some fn => !(fn.name == "runtime.NumGoroutine") && fn.body.isSome
  | none => false

theorem plain_run {P : Program} {f : Nat} (h : plainB P f = true) (args : Array Value) (w : World) : (callFunc f args).run P w = .ok (.enter f args) w := by
  unfold plainB at h
  cases hf : P.funcs[f]? with
  | none => rw [hf] at h; cases h
  | some fn =>
    rw [hf] at h
    simp only [Bool.and_eq_true, Bool.not_eq_true'] at h
    obtain ⟨h1, h2⟩ := h
    have h3 : fn.body.isNone = false := by cases hb : fn.body <;> simp_all
    have h1' : fn.name ≠ "runtime.NumGoroutine" := by simpa using h1
    have h3' : fn.body ≠ none := by intro hc; rw [hc] at h3; cases h3
    simp [callFunc, hf, h1', h3', program, Sem.run, bind, Sem.bind, pure]

/-- 'map' over an array's list: the kernel reckons it at once. -/
def amap {α β : Type} (f : α → β) (a : Array α) : Array β := (a.toList.map f).toArray
theorem amap_eq {α β : Type} (f : α → β) (a : Array α) : amap f a = a.map f := by
  apply Array.ext'
  simp [amap]
/- WORDS FOR SINGLE OPERATIONS: what the model's dispatch does, on values. -/
def mv (s : Sem Value) : Sem Next := do pure (.value (← s))
def mu (s : Sem Unit) : Sem Next := do s; pure .skip
def mAlloc (T : TypeId) := mv (Instr.alloc T true (.tuple #[]))
def mBox (T : TypeId) (x : Value) := mv (Instr.box T x)
def mBuild (T : TypeId) (ps : Array (Nat × Value)) := mv (Instr.build T ps)
def mBuildS (T : TypeId) (n : Nat) (ps : Array (Nat × Value)) := mv (Instr.buildSlice T n ps)
def mLoad (T : TypeId) (a : Value) := mv (Instr.loadAt T a)
def mStore (T : TypeId) (a x : Value) := mu (Instr.storeAt T a x)
def mReady (g : Nat) := mu (Instr.ready g)
def mWaits (g : Nat) := mv (Instr.waits g)
def mNil (x : Value) : Sem Next := execOp (fun _ => x) { dst := none, op := .nilCheck (.tmp 0), type := 0, pos := "", after := #[], guard := none }
def mPick (c a b : Value) : Sem Next := do pure (.value (if ← asBool c then a else b))
def mBin (op : BinOp) (T : TypeId) (x y : Value) := mv (binOp op T x y)
/-- '==' and '!=': the model asks whether an operand is a literal. -/
def mEq (op : BinOp) (T : TypeId) (xo yo : Operand) (x y : Value) := mv (do eqGuard op T xo yo x y; binOp op T x y)
def mUn (op : UnOp) (x : Value) := mv (Op.unary op x)
def mConv (S D : TypeId) (x : Value) := mv (convert S D x)
def mSAP (D : TypeId) (x : Value) := mv (Instr.arrayAt D x)
def mIface (T : TypeId) (x : Value) := mv (Instr.makeInterface T x)
def mFunc (fn : Fn) (first cap : Array Value) := mv (Instr.makeFunc fn first cap)
def mMap (T : TypeId) (r : Option Value) := mv (Instr.makeMap T r)
def mMake (T : TypeId) (l c : Value) := mv (Instr.makeSlice T l c)
def mSlice (T : TypeId) (x : Value) (lo hi mx : Option Value) := mv (Instr.sliceAt T x lo hi mx)
def mFA (T : TypeId) (x : Value) (f : Nat) := mv (Instr.fieldAt T x f)
def mFld (T : TypeId) (x : Value) (f : Nat) := mv (Instr.field T x f)
def mIA (T : TypeId) (x i : Value) := mv (Instr.indexAt T x i)
def mIx (T : TypeId) (x i : Value) := mv (Instr.index T x i)
def mLook (T : TypeId) (x i : Value) (ok : Bool) := mv (Instr.lookup T x i ok)
def mMapU (T : TypeId) (m k v : Value) := mu (Instr.mapUpdate T m k v)
def mMapE (T : TypeId) (m k : Value) := mv (Instr.mapEntry T m k)
def mEntS (T : TypeId) (m s v : Value) := mu (Instr.entryStore T m s v)
def mRange (T : TypeId) (x : Value) := mv (Instr.range T x)
def mNext (it : Value) (str : Bool) (ty : TypeId) := mv (Instr.next it str ty)
def mEntry (it : Value) := mv (Instr.entry it)
def mTA (x : Value) (xT T : TypeId) (ok : Bool) := mv (Instr.typeAssert x xT T ok)
def mExt (t : Value) (i : Nat) := mv (Instr.extract t i)
def mPanic (x : Value) := mv (Instr.panic x)
def mB (b : Builtin) (ats : Array TypeId) (ty : TypeId) (cs : Array Bool) (vs : Array Value) : Sem Next := builtin b ats ty cs vs
def mCallV (f : Value) (args : Array Value) : Sem Next := do let d ← Deferred.ofValue f args; invoke d.target d.args
def mInv (name : String) (r : Value) (args : Array Value) : Sem Next := invoke (.fn (.method name) #[]) (#[r] ++ args)
def isEq : BinOp → Bool
  | .eql | .neq => true
  | _ => false
def isLit : Operand → Bool
  | .const _ => true
  | _ => false
def semOf (ρ : Operand → Value) (o : Oper) : Sem Next :=
  match o.op with
  | .alloc T => mAlloc T
  | .box T x => mBox T (ρ x)
  | .build T ps => mBuild T (amap (fun p => (p.1, ρ p.2)) ps)
  | .buildSlice T n ps => mBuildS T n (amap (fun p => (p.1, ρ p.2)) ps)
  | .load T a => mLoad T (ρ a)
  | .store T a x => mStore T (ρ a) (ρ x)
  | .ready g => mReady g
  | .waits g => mWaits g
  | .nilCheck x => mNil (ρ x)
  | .pick c a b => mPick (ρ c) (ρ a) (ρ b)
  | .binOp op T x y _ => bc (isEq op) (mEq op T x y (ρ x) (ρ y)) (mBin op T (ρ x) (ρ y))
  | .unOp op _ x => mUn op (ρ x)
  | .convert S D x => mConv S D (ρ x)
  | .sliceToArrayPointer D x => mSAP D (ρ x)
  | .makeInterface T x => mIface T (ρ x)
  | .makeFunc fn first cap => mFunc fn (amap ρ first) (amap ρ cap)
  | .makeMap T r => mMap T (r.map ρ)
  | .makeSlice T l c => mMake T (ρ l) (ρ c)
  | .slice T x lo hi mx => mSlice T (ρ x) (lo.map ρ) (hi.map ρ) (mx.map ρ)
  | .fieldAddr T x f => mFA T (ρ x) f
  | .field T x f => mFld T (ρ x) f
  | .indexAddr T x i => mIA T (ρ x) (ρ i)
  | .index T x i => mIx T (ρ x) (ρ i)
  | .lookup T x i ok => mLook T (ρ x) (ρ i) ok
  | .mapUpdate T m k v => mMapU T (ρ m) (ρ k) (ρ v)
  | .insert T m k v => mMapU T (ρ m) (ρ k) (ρ v)
  | .mapEntry T m k => mMapE T (ρ m) (ρ k)
  | .entryStore T m s v => mEntS T (ρ m) (ρ s) (ρ v)
  | .range T x => mRange T (ρ x)
  | .next it str => mNext (ρ it) str o.type
  | .entry it => mEntry (ρ it)
  | .typeAssert x xT T ok => mTA (ρ x) xT T ok
  | .extract t i => mExt (ρ t) i
  | .panic x => mPanic (ρ x)
  | .call { callee := .builtin b, args, argTypes } => mB b argTypes o.type (amap isLit args) (amap ρ args)
  | .call { callee := .value f, args, .. } => mCallV (ρ f) (amap ρ args)
  | .call { callee := .invoke r name, args, .. } => mInv name (ρ r) (amap ρ args)
  | _ => execOp ρ o
theorem semOf_eq (ρ : Operand → Value) (o : Oper) : semOf ρ o = execOp ρ o := by
  obtain ⟨dst, op, ty, pos, after, guard⟩ := o
  unfold semOf
  simp only [amap_eq]
  cases op with
  | binOp op T x y T' => cases op <;> rfl
  | call c =>
    obtain ⟨callee, args, ats⟩ := c
    cases callee with
    | value f => rfl
    | invoke r n => rfl
    | builtin b => rfl
  | _ => rfl

def opV (P : Program) (o : Oper) (σ : Sg) (w : World) (K : Value → World → Prop) (PK : List PanicEntry → World → Prop) : Prop :=
  match o.op with
  | .move x | .assign x => K (rd σ x) w
  | .call { callee := .value (.func f), args, .. } => bc (plainB P f) (CallX P f (amap (rd σ) args) w PK K) (DoX P (semOf (rd σ) o) w PK K)
  | .defer _ => False
  | _ => DoX P (semOf (rd σ) o) w PK K

def wants (v : Value) (want : Bool) : Bool :=
  match v with
  | .bool b => b == want
  | _ => false
def gslot (ops : Array Oper) (j : Nat) : Option Nat := (ops[j]?).bind (·.dst)
structure GDo (v : Value) (want : Bool) (E : (Value → World → Prop) → Prop) (w : World) (K : Value → World → Prop) : Prop where
  mk ::
  out : bc (wants v want) (E K) (K undef w)


abbrev Nx := Sg → List Deferred → World → Prop

/-- The deferred call of a 'defer' statement. -/
def dfr (σ : Sg) (c : Call) : Option Deferred :=
  match c.callee with
  | .value (.func f) => some { target := .fn (.func f) #[], args := amap (rd σ) c.args }
  | .value x => match rd σ x with
    | .func fn first captured => some { target := .fn fn captured, args := first ++ amap (rd σ) c.args }
    | _ => none
  | _ => none
structure DfrX (d : Option Deferred) (K : Deferred → Prop) : Prop where
  mk ::
  out : ∃ d', d = some d' ∧ K d'

def opsX (P : Program) (n : Nat) (ops : Array Oper) (K : Nx) (PK : List PanicEntry → Nx) : List Oper → Sg → List Deferred → World → Prop
  | [], σ, ds, w => K σ ds w
  | o :: rest, σ, ds, w =>
    bc (inB n o.dst)
      (match o.guard with
      | none =>
        match o.op with
        | .defer c => match c.callee with
          | .value (.func f) => opsX P n ops K PK rest (put σ o.dst undef) ({ target := .fn (.func f) #[], args := amap (rd σ) c.args } :: ds) w
          | _ => DfrX (dfr σ c) (fun d => opsX P n ops K PK rest (put σ o.dst undef) (d :: ds) w)
        | _ => opV P o σ w (fun v w => opsX P n ops K PK rest (put σ o.dst v) ds w) (fun c w => PK c σ ds w)
      | some (j, want) =>
        match gslot ops j with
        | some d => bc (Nat.blt d n) (GDo (σ d) want (fun K' => opV P o σ w K' (fun c w => PK c σ ds w)) w (fun v w => opsX P n ops K PK rest (put σ o.dst v) ds w)) False
        | none => False)
      False

def liftN (n : Nat) (K : Nx) (a : Act) (w : World) : Prop := ∃ σ, Rep n σ a.tmps ∧ K σ a.defers w

theorem Do_of {P : Program} {o : Oper} {n : Nat} {σ : Sg} {a : Act} {w : World} (hr : Rep n σ a.tmps) (hd : inB n o.dst = true) {K : Nx} {PK : List PanicEntry → Nx} {Q : Exit → Act → World → Prop} {next : Act → World → Prop}
    (hQ : ∀ c a w, liftN n (PK c) a w → Q (.panic c) a w) (hnext : ∀ a w, liftN n K a w → next a w)
    (h : Upon P ((execOp (rd σ) o).run P w) (fun v w => K (put σ o.dst v) a.defers w) (fun c w => PK c σ a.defers w)) : o.wp P a w next Q := by
  unfold Oper.wp
  rw [hr.eval]
  generalize (execOp (rd σ) o).run P w = r at *
  have hput : ∀ v w, K (put σ o.dst v) a.defers w → next (a.put o.dst v) w := fun v w hk => hnext _ _ ⟨_, hr.put hd v, by
    have e : (a.put o.dst v).defers = a.defers := by cases o.dst <;> rfl
    rw [e]; exact hk⟩
  cases r with
  | ok x w' =>
    cases x <;> simp only [Upon] at h <;> simp only [Oper.upon]
    · exact hput _ _ h
    · exact hput _ _ h
    · refine h.out.mono fun e w'' hc => ?_
      cases e with
      | returned v => exact hput _ _ hc
      | panicked c => exact hQ _ _ _ ⟨σ, hr, hc⟩
      | outgrown => exact hc.elim
    all_goals exact h.elim
  | halt x w' =>
    cases x <;> simp only [Upon] at h <;> simp only [Oper.upon]
    case panic v => exact hQ _ _ _ ⟨σ, hr, h⟩
    all_goals exact h.elim

theorem opV_of {P : Program} {o : Oper} {n : Nat} {σ : Sg} {a : Act} {w : World} (hr : Rep n σ a.tmps) (hd : inB n o.dst = true) {K : Nx} {PK : List PanicEntry → Nx} {Q : Exit → Act → World → Prop} {next : Act → World → Prop}
    (hQ : ∀ c a w, liftN n (PK c) a w → Q (.panic c) a w) (hnext : ∀ a w, liftN n K a w → next a w)
    (h : opV P o σ w (fun v w => K (put σ o.dst v) a.defers w) (fun c w => PK c σ a.defers w)) : o.wp P a w next Q := by
  refine Do_of hr hd hQ hnext ?_
  unfold opV at h
  split at h
  · rename_i x hx; rw [show execOp (rd σ) o = pure (.value (rd σ x)) by unfold execOp; rw [hx]]; exact h
  · rename_i x hx; rw [show execOp (rd σ) o = pure (.value (rd σ x)) by unfold execOp; rw [hx]]; exact h
  · rename_i f args ats hx
    cases hp : plainB P f with
    | false => rw [hp, bc_false] at h; replace h := h.out; rw [semOf_eq] at h; exact h
    | true =>
      rw [hp, bc_true] at h
      have : (execOp (rd σ) o).run P w = .ok (.enter f (amap (rd σ) args)) w := by
        unfold execOp
        rw [hx]
        rw [amap_eq]
        simp only [resolve, rd, Deferred.ofValue, invoke, bind, pure, Sem.bind]
        rw [Array.empty_append, Array.append_empty]
        exact plain_run hp _ _
      rw [this]; exact h
  · exact h.elim
  · replace h := h.out; rw [semOf_eq] at h; exact h

theorem wants_iff {n : Nat} {σ : Sg} {a : Act} (hr : Rep n σ a.tmps) {ops : Array Oper} {o : Oper} {j d : Nat} {want : Bool} (hg : o.guard = some (j, want)) (hj : gslot ops j = some d) (hd : Nat.blt d n = true) :
    Region.wanted o (yielded ops a.tmps) = wants (σ d) want := by
  have hd' : d < a.tmps.size := by rw [hr.size]; simpa [Nat.blt_eq] using hd
  have e : a.tmps[d]? = some (σ d) := by
    rw [← hr.get d, Array.getD_eq_getD_getElem?, Array.getElem?_eq_getElem hd']; rfl
  unfold gslot at hj
  simp only [Region.wanted, hg, yielded, hj, Option.bind_some, e, wants]
  cases σ d <;> simp

theorem opsX_sound {P : Program} {n : Nat} {ops : Array Oper} {K : Nx} {PK : List PanicEntry → Nx} {Q : Exit → Act → World → Prop}
    (hQ : ∀ c a w, liftN n (PK c) a w → Q (.panic c) a w) (hK : ∀ a w, liftN n K a w → Q .normal a w) :
    ∀ (l : List Oper) (σ : Sg) (a : Act) (w : World), Rep n σ a.tmps → opsX P n ops K PK l σ a.defers w → wpList P ops Q l a w := by
  intro l
  induction l with
  | nil => intro σ a w hr h; exact hK _ _ ⟨σ, hr, h⟩
  | cons o rest ih =>
    intro σ a w hr h
    unfold opsX at h
    cases hd : inB n o.dst with
    | false => rw [hd, bc_false] at h; exact h.elim
    | true =>
      rw [hd, bc_true] at h
      unfold wpList
      cases hg : o.guard with
      | none =>
        simp only [hg] at h
        rw [if_pos (by simp [Region.wanted, hg])]
        left
        split at h
        · rename_i c hc
          have key : ∀ d, dfr σ c = some d → opsX P n ops K PK rest (put σ o.dst undef) (d :: a.defers) w → o.wp P a w (wpList P ops Q rest) Q := by
            intro d hdf h
            have hrun : (execOp (rd σ) o).run P w = .ok (.defer d) w := by
              unfold execOp
              rw [hc]
              unfold dfr at hdf
              unfold resolve
              split at hdf
              · rename_i f hf
                cases hdf
                simp [amap_eq, hf, rd, Deferred.ofValue, bind, pure, Sem.bind, Sem.run]
              · rename_i x _ hx
                split at hdf
                · rename_i fn first cap hv
                  cases hdf
                  simp [amap_eq, hx, hv, Deferred.ofValue, bind, pure, Sem.bind, Sem.run]
                · cases hdf
              · cases hdf
            unfold Oper.wp
            rw [hr.eval, hrun]
            simp only [Oper.upon]
            have hr' : Rep n (put σ o.dst undef) (({ a with defers := d :: a.defers } : Act).put o.dst undef).tmps := Rep.put (a := { a with defers := d :: a.defers }) hr hd undef
            refine ih _ _ _ hr' ?_
            have e : (({ a with defers := d :: a.defers } : Act).put o.dst undef).defers = d :: a.defers := by cases o.dst <;> rfl
            rw [e]; exact h
          split at h
          · rename_i f hf
            exact key _ (by unfold dfr; rw [hf]) h
          · obtain ⟨d, hdf, h⟩ := h.out
            exact key d hdf h
        · refine opV_of (K := fun σ ds w => opsX P n ops K PK rest σ ds w) (PK := PK) hr hd hQ ?_ h
          rintro a' w' ⟨σ', hr', h'⟩
          exact ih _ _ _ hr' h'
      | some jw =>
        obtain ⟨j, want⟩ := jw
        simp only [hg] at h
        split at h
        · rename_i d hj
          cases hdn : Nat.blt d n with
          | false => rw [hdn, bc_false] at h; exact h.elim
          | true =>
            rw [hdn, bc_true] at h
            have hw := wants_iff hr hg hj hdn
            replace h := h.out
            cases hwv : wants (σ d) want with
            | true =>
              rw [hwv, bc_true] at h
              rw [if_pos (by rw [hw, hwv])]
              left
              refine opV_of (K := fun σ ds w => opsX P n ops K PK rest σ ds w) (PK := PK) hr hd hQ ?_ h
              rintro a' w' ⟨σ', hr', h'⟩
              exact ih _ _ _ hr' h'
            | false =>
              rw [hwv, bc_false] at h
              rw [if_neg (by rw [hw, hwv]; simp)]
              have e : (a.put o.dst undef).defers = a.defers := by cases o.dst <;> rfl
              exact ih _ _ _ (hr.put hd undef) (by rw [e]; exact h)
        · exact h.elim

/- QUIET REGIONS: an order that Go leaves open, of operations that only read or call what leaves old memory alone: the text's order serves. -/
structure QDo (P : Program) (C : World → Prop) (m : Sem Next) (K : Value → Prop) : Prop where
  mk ::
  out : ∃ v, (∀ w, C w → Oper.quietUpon P C w v (m.run P w)) ∧ K v

structure QCall (P : Program) (C : World → Prop) (f : Nat) (args : Array Value) (K : Value → Prop) : Prop where
  mk ::
  out : ∃ v, (∀ w, C w → Calls P f args w (fun e w' => e = .returned v ∧ C w')) ∧ K v

def opQ (P : Program) (C : World → Prop) (o : Oper) (σ : Sg) (K : Value → Prop) : Prop :=
  match o.op with
  | .move x | .assign x => K (rd σ x)
  | .call { callee := .value (.func f), args, .. } => bc (plainB P f) (QCall P C f (amap (rd σ) args) K) (QDo P C (semOf (rd σ) o) K)
  | _ => QDo P C (semOf (rd σ) o) K
structure GQ (v : Value) (want : Bool) (E : (Value → Prop) → Prop) (K : Value → Prop) : Prop where
  mk ::
  out : bc (wants v want) (E K) (K undef)

def quietX (P : Program) (n : Nat) (ops : Array Oper) (C : World → Prop) (K : Sg → Prop) : List Oper → Sg → Prop
  | [], σ => K σ
  | o :: rest, σ =>
    bc (inB n o.dst)
      (match o.guard with
      | none => opQ P C o σ (fun v => quietX P n ops C K rest (put σ o.dst v))
      | some (j, want) =>
        match gslot ops j with
        | some d => bc (Nat.blt d n) (GQ (σ d) want (fun K' => opQ P C o σ K') (fun v => quietX P n ops C K rest (put σ o.dst v))) False
        | none => False)
      False

theorem opQ_of {P : Program} {C : World → Prop} {o : Oper} {n : Nat} {σ : Sg} {a : Act} (hr : Rep n σ a.tmps) {next : Act → Prop} {K : Value → Prop}
    (hnext : ∀ v, K v → next (a.put o.dst v)) (h : opQ P C o σ K) : o.quiet P a C next := by
  unfold Oper.quiet Oper.quietAt
  rw [hr.eval]
  have key : QDo P C (semOf (rd σ) o) K → ∃ v, (∀ w, C w → Oper.quietUpon P C w v ((execOp (rd σ) o).run P w)) ∧ next (a.put o.dst v) :=
    fun ⟨⟨v, h1, h2⟩⟩ => ⟨v, by rw [← semOf_eq]; exact h1, hnext _ h2⟩
  unfold opQ at h
  split at h
  · rename_i x hx; exact ⟨rd σ x, fun w _ => by rw [show execOp (rd σ) o = pure (.value (rd σ x)) by unfold execOp; rw [hx]]; exact ⟨rfl, rfl⟩, hnext _ h⟩
  · rename_i x hx; exact ⟨rd σ x, fun w _ => by rw [show execOp (rd σ) o = pure (.value (rd σ x)) by unfold execOp; rw [hx]]; exact ⟨rfl, rfl⟩, hnext _ h⟩
  · rename_i f args ats hx
    cases hp : plainB P f with
    | false => rw [hp, bc_false] at h; exact key h
    | true =>
      rw [hp, bc_true] at h
      obtain ⟨v, h1, h2⟩ := h.out
      refine ⟨v, fun w hw => ?_, hnext _ h2⟩
      have : (execOp (rd σ) o).run P w = .ok (.enter f (amap (rd σ) args)) w := by
        unfold execOp
        rw [hx]
        rw [amap_eq]
        simp only [resolve, rd, Deferred.ofValue, invoke, bind, pure, Sem.bind]
        rw [Array.empty_append, Array.append_empty]
        exact plain_run hp _ _
      rw [this]
      exact ⟨rfl, h1 w hw⟩
  · exact key h

theorem quietX_sound {P : Program} {n : Nat} {ops : Array Oper} {C : World → Prop} {K : Sg → Prop} {ds : List Deferred} {Q : Act → Prop}
    (hK : ∀ σ a, Rep n σ a.tmps → a.defers = ds → K σ → Q a) :
    ∀ (l : List Oper) (σ : Sg) (a : Act), Rep n σ a.tmps → a.defers = ds → quietX P n ops C K l σ → wpQuiet P ops C Q l a := by
  intro l
  induction l with
  | nil => intro σ a hr hds h; exact hK _ _ hr hds h
  | cons o rest ih =>
    intro σ a hr hds h
    unfold quietX at h
    cases hd : inB n o.dst with
    | false => rw [hd, bc_false] at h; exact h.elim
    | true =>
      rw [hd, bc_true] at h
      have hnext : ∀ v, quietX P n ops C K rest (put σ o.dst v) → wpQuiet P ops C Q rest (a.put o.dst v) := fun v h' =>
        ih _ _ (hr.put hd v) (by rw [← hds]; cases o.dst <;> rfl) h'
      unfold wpQuiet
      cases hg : o.guard with
      | none =>
        simp only [hg] at h
        rw [if_pos (by simp [Region.wanted, hg])]
        exact opQ_of hr hnext h
      | some jw =>
        obtain ⟨j, want⟩ := jw
        simp only [hg] at h
        split at h
        · rename_i d hj
          cases hdn : Nat.blt d n with
          | false => rw [hdn, bc_false] at h; exact h.elim
          | true =>
            rw [hdn, bc_true] at h
            have hw := wants_iff hr hg hj hdn
            replace h := h.out
            cases hwv : wants (σ d) want with
            | true =>
              rw [hwv, bc_true] at h
              rw [if_pos (by rw [hw, hwv])]
              exact opQ_of hr hnext h
            | false =>
              rw [hwv, bc_false] at h
              rw [if_neg (by rw [hw, hwv]; simp)]
              exact hnext _ h
        · exact h.elim

/- A REGION WHOSE LAST OPERATIONS STORE OR MAKE MEMORY, in one forced order: what stands ahead of them only reads. -/
def isEff (P : Program) (o : Oper) : Bool :=
  match o.op with
  | .alloc _ | .box .. | .buildSlice .. | .store .. | .makeMap .. | .makeSlice .. | .makeChan .. | .mapUpdate .. | .insert .. | .mapEntry .. | .entryStore .. | .range .. | .next .. | .panic _ | .defer _ => true
  | .convert _ d _ => match P.underlying d with | some (.slice _) => true | _ => false
  | .call { callee := .builtin .unsafeString, .. } | .call { callee := .builtin .append, .. } | .call { callee := .builtin .copy, .. } | .call { callee := .builtin .delete, .. } | .call { callee := .builtin .clear, .. } => true
  | _ => false
def headLen (P : Program) : List Oper → Nat
  | [] => 0
  | o :: l => bc (isEff P o) 0 (headLen P l + 1)

section
variable {P : Program} {ops : Array Oper} {md : Region.Mode} {C : World → Prop}
theorem wpAnyLQ_first {n i : Nat} {oi : Oper} {v : Value} {L : Array Bool → Act → Prop} (hi : ops[i]? = some oi) (hsel : ∀ (j : Nat) (o : Oper) cs b, ops[j]? = some o → o.op ≠ .select cs b)
    (hs : Region.sinkB md ops n = true) (hc : Region.chainB md ops n = true) (hn : n < ops.size) (hin : i < n)
    (hdone : ∀ listed a, L listed a → ∀ j ∈ Region.ready md ops listed, n ≤ j) :
    ∀ (f : Nat) (listed : Array Bool) (a : Act), HeadInv md ops n listed →
      (∀ j oj, ops[j]? = some oj → j ≠ i → listed.getD j true = false → (∀ e ∈ oj.after, Region.binds md e = true → e.on ≠ i) → oi.apart ops oj = true) →
      i ∈ Region.ready md ops listed → YieldsIn P ops C oi v a →
      wpAnyLQ P md ops C n L f (listed.setIfInBounds i true) (a.put oi.dst v) → wpAnyLQ P md ops C n L (f + 1) listed a := by
  intro f
  induction f with
  | zero =>
    intro listed a inv _ hr hy H
    have hun := (mem_ready.1 hr).1
    refine ⟨fun h => (by rw [h] at hr; cases hr), fun j hj => ?_⟩
    have hjn : j < n := by
      rcases Nat.lt_or_ge j n with h | h
      · exact h
      · exact absurd hj (tail_waits hs hc hn inv _ i rfl hin hun j h)
    refine ⟨hjn, ?_⟩
    by_cases hji : j = i
    · subst hji; exact hy.qOp hi H
    · have := hdone _ _ H j (ready_mono hj hji)
      omega
  | succ f ih =>
    intro listed a inv hfree hr hy H
    have hun := (mem_ready.1 hr).1
    refine ⟨fun h => (by rw [h] at hr; cases hr), fun j hj => ?_⟩
    have hjn : j < n := by
      rcases Nat.lt_or_ge j n with h | h
      · exact h
      · exact absurd hj (tail_waits hs hc hn inv _ i rfl hin hun j h)
    refine ⟨hjn, ?_⟩
    by_cases hji : j = i
    · subst hji; exact hy.qOp hi H
    · have h1 := (H.2 j (ready_mono hj hji)).2
      obtain ⟨hjun, oj, hoj, hall⟩ := mem_ready.1 hj
      have hnot : ∀ e ∈ oj.after, Region.binds md e = true → e.on ≠ i := fun e he hb heq => by
        have h1 := hall e he hb
        rw [heq, getD_both hun] at h1
        cases h1
      have h2 := qOp_put hoj (hfree j oj hoj hji hjun hnot) (fun cs b => hsel i oi cs b hi) (fun cs b => hsel j oj cs b hoj) hy h1
      have hfree' : ∀ k ok, ops[k]? = some ok → k ≠ i → (listed.setIfInBounds j true).getD k true = false →
          (∀ e ∈ ok.after, Region.binds md e = true → e.on ≠ i) → oi.apart ops ok = true := fun k ok hk hki hun hno => by
        refine hfree k ok hk hki ?_ hno
        by_cases hjk : j = k
        · subst hjk; exact hjun
        · rw [getD_set_ne true hjk] at hun; exact hun
      refine qOp_mono (fun a' h3 => ih (listed.setIfInBounds j true) a' (inv.set hj hjn) hfree' (ready_mono hr (Ne.symm hji)) h3.1 ?_) h2
      rw [Array.setIfInBounds_comm _ _ hji]
      exact h3.2
theorem wpAnyLQ_lex {n g : Nat} {Lq : Act → Prop} (hsel : Region.noSelect ops = true) (hs : Region.sinkB md ops n = true) (hc : Region.chainB md ops n = true) (hn : n < ops.size) :
    ∀ (l : List Oper) (k : Nat) (listed : Array Bool) (a : Act), (∀ j, j < l.length → l[j]? = ops[k + j]?) → k + l.length = n → HeadInv md ops n listed →
    Region.lexHead md ops g l.length k listed = true → wpQuiet P ops C Lq l a →
    wpAnyLQ P md ops C n (fun listed' a' => Region.seqB md ops g n listed' = true ∧ Lq a') l.length listed a
  | [], k, listed, a, _, hk, _, hB, h => by
    have : k = n := by simpa using hk
    subst this
    exact ⟨by simpa [Region.lexHead] using hB, h⟩
  | o :: l, k, listed, a, hl, hk, inv, hB, h => by
    have h0 : ops[k]? = some o := by simpa using (hl 0 (by simp)).symm
    simp only [List.length_cons, Region.lexHead, Bool.and_eq_true] at hB
    obtain ⟨⟨hr, hf⟩, hB'⟩ := hB
    have hkn : k < n := by simp only [List.length_cons] at hk; omega
    have hr' : k ∈ Region.ready md ops listed := by simpa using hr
    have hst : qOp P ops C k (wpQuiet P ops C Lq l) a := by unfold qOp; simp only [h0]; exact h
    obtain ⟨v, hy, hK⟩ := yieldsIn_of_qOp h0 hst
    exact wpAnyLQ_first h0 (Region.noSelect_spec hsel) hs hc hn hkn (fun listed' a' hL => seqB_ready hL.1) l.length listed a inv (Region.free_spec h0 hf) hr' hy
      (wpAnyLQ_lex hsel hs hc hn l (k + 1) _ _ (fun j hj => by have := hl (j + 1) (by simp; omega); simpa [Nat.add_assoc, Nat.add_comm 1 j] using this) (by simp only [List.length_cons] at hk; omega) (inv.set hr' hkn) hB' hK)
theorem wp_region_quiet_tail {id : Nat} {Q : Exit → Act → World → Prop} {a : Act} {w : World} {l : List Oper} (n : Nat) (hm : P.follows .mixedOrders = true) (hB : Region.lexTailB .any l.toArray n = true) (hC : C { w with drawn := w.drawn + 1 })
    (h : wpQuiet P l.toArray C (fun a' => ∀ w', C w' → wpList P l.toArray Q (l.drop n) a' w') (l.take n) a) : (Code.region id l.toArray true).wp P Q a w := by
  simp only [Region.lexTailB, Bool.and_eq_true, decide_eq_true_eq] at hB
  obtain ⟨⟨⟨⟨hsel, hn⟩, hs⟩, hc⟩, hlex⟩ := hB
  have hn' : n < l.length := by simpa using hn
  have htl : (l.take n).length = n := by simp; omega
  have hdl : (l.drop n).length = l.toArray.size - n := by simp
  have inv0 : HeadInv .any l.toArray n (Array.replicate l.toArray.size false) :=
    ⟨by simp, fun j oj _ hl => (by rw [getD_replicate_false] at hl; cases hl), fun t _ ht => getD_in (by simpa using ht) (getD_replicate_false _ _)⟩
  have H := wpAnyLQ_lex (md := .any) (g := l.toArray.size - n) hsel hs hc hn (l.take n) 0 _ a (fun j hj => by
    have hj' : j < n := by rw [htl] at hj; exact hj
    simp [hj']) (by simpa using htl) inv0 (by rw [htl]; exact hlex) h
  refine wp_region_any hm ?_
  have := wpAnyQ_of_head (Q' := Q) (g := l.toArray.size - n) (fun listed a' w' hw' hL => by
    have := wpAny_of_seq (md := .any) (Q' := Q) (l.drop n) n listed a' w' (fun j => by simp [List.getElem?_drop]) (by rw [hdl]; exact hL.1) (hL.2 w' hw')
    rwa [hdl] at this) _ _ _ _ hC H
  rw [htl, show n + (l.toArray.size - n) = l.toArray.size by omega] at this
  exact this
end

/- MOVES FIRST -/
def memN (i : Nat) : List Nat → Bool
  | [] => false
  | j :: l => Nat.beq i j || memN i l
def afterIn (ms : List Nat) (o : Oper) : Bool := o.after.toList.all fun e => !(Region.binds .any e) || memN e.on ms
def mvL : List Oper → Nat → List Nat → List (Nat × Oper)
  | [], _, _ => []
  | o :: l, k, ms => bc (isMv o && afterIn ms o) ((k, o) :: mvL l (k + 1) (k :: ms)) (mvL l (k + 1) ms)
def hdL : List Oper → Nat → List Nat → List (Nat × Oper)
  | [], _, _ => []
  | o :: l, k, ms => bc (isMv o && afterIn ms o) (hdL l (k + 1) (k :: ms)) ((k, o) :: hdL l (k + 1) ms)
def mvX (o : Oper) (σ : Sg) : Value :=
  match o.op with
  | .move x | .assign x => rd σ x
  | _ => undef
def takeX : List (Nat × Oper) → Sg → Sg
  | [], σ => σ
  | p :: r, σ => takeX r (put σ p.2.dst (mvX p.2 σ))
def inBs (n : Nat) : List (Nat × Oper) → Bool
  | [] => true
  | p :: r => inB n p.2.dst && inBs n r
/-- What holds whatever the moves' slots hold. -/
def pmX : List (Nat × Oper) → Nx → Nx
  | [], K => K
  | p :: r, K => fun σ ds w => ∀ u : Value, pmX r K (put σ p.2.dst u) ds w

/- CODE -/
abbrev Ex := Exit → Sg → List Deferred → World → Prop
def mem (i : Nat) : List Nat → Bool
  | [] => false
  | j :: l => Nat.beq i j || mem i l
def dsts : List Oper → List Nat
  | [] => []
  | o :: l => match o.dst with
    | some d => d :: dsts l
    | none => dsts l
/-- The slots that a piece of code may write. -/
def asg : Code → List Nat
  | .region _ ops _ => dsts ops.toList
  | .seq a b => asg a ++ asg b
  | .cond _ a b => asg a ++ asg b
  | .block _ a => asg a
  | .loop a => asg a
  | _ => []
/-- How often code jumps to block 'id' (in the text that 'wpX' makes of it); how often it ends. -/
def exits (id : Nat) : Code → Nat
  | .seq a b => exits id a + exits id b
  | .cond _ a b => exits id a + exits id b
  | .block _ a => exits id a
  | .loop a => exits id a
  | .exit j => bc (Nat.beq id j) 1 0
  | _ => 0
def ways : Code → Nat
  | .skip => 1
  | .region .. => 1
  | .seq a b => bc (Nat.beq (ways a) 0) 0 (ways b)
  | .cond _ a b => ways a + ways b
  | .block id a => ways a + exits id a
  | _ => 0
def keyOf : Code → Nat
  | .region id .. => id
  | .seq a b => bc (Nat.beq (keyOf a) 999999) (keyOf b) (keyOf a)
  | .cond _ a b => bc (Nat.beq (keyOf a) 999999) (keyOf b) (keyOf a)
  | .block _ a => keyOf a
  | .loop a => keyOf a
  | _ => 999999
def look (k : Nat) : List (Nat × List Nat) → List Nat
  | [] => []
  | p :: l => bc (Nat.beq p.1 k) p.2 (look k l)
def pos (i : Nat) : List Nat → Option Nat
  | [] => none
  | j :: l => bc (Nat.beq i j) (some 0) ((pos i l).map (· + 1))
/-- Slots: those of 'ls' as 'vs' has them, the other ones of 'A' as 'j' has them, the rest as they were. -/
def mix (σ : Sg) (A ls : List Nat) (vs : List Value) (j : Sg) : Sg := fun i =>
  bc (mem i A) (match pos i ls with | some k => vs.getD k undef | none => j i) (σ i)
def pick (ls : List Nat) (σ : Sg) : List Value :=
  match ls with
  | [] => []
  | i :: l => σ i :: pick l σ

/-- The ways through a branching piece of code meet again: J stands for what follows. -/
structure JoinX (F : (List Value → World → Prop) → Prop) (R : List Value → World → Prop) : Prop where
  mk ::
  out : ∀ J : List Value → World → Prop, (∀ vs w, R vs w → J vs w) → F J
/-- The list of deferred calls is what it was. -/
def AtX : List Deferred → List Deferred → Prop → Prop
  | [], [], p => p
  | a, b, p => a = b ∧ p
theorem AtX.out {a b : List Deferred} {p : Prop} (h : AtX a b p) : a = b ∧ p := by
  unfold AtX at h
  split at h
  · exact ⟨rfl, h⟩
  · exact h
theorem AtX.mk {a b : List Deferred} {p : Prop} (h : a = b) (hp : p) : AtX a b p := by
  unfold AtX
  split
  · exact hp
  · exact ⟨h, hp⟩
structure IfX (v : Value) (A B : Prop) : Prop where
  mk ::
  out : match v with
    | .bool b => (b = true → A) ∧ (b = false → B)
    | _ => False
structure LoopX (vs : List Value) (w : World) (F : List Value → World → (List Value → World → Prop) → Prop) : Prop where
  mk ::
  out : ∃ (I : List Value → World → Prop) (μ : List Value → World → Nat), I vs w ∧ ∀ vs w, I vs w → F vs w (fun vs' w' => I vs' w' ∧ μ vs' w' < μ vs w)
/-- A region that draws its order and only reads. -/
structure QuietX (w : World) (F : (World → Prop) → Prop) : Prop where
  mk ::
  out : F (Below w.heap.size w)

def thenQ (Q : Ex) (K : Nx) : Ex
  | .normal, σ, ds, w => K σ ds w
  | e, σ, ds, w => Q e σ ds w
def blockQ (id : Nat) (Q : Ex) : Ex
  | .exit j, σ, ds, w => bc (Nat.beq j id) (Q .normal σ ds w) (Q (.exit j) σ ds w)
  | e, σ, ds, w => Q e σ ds w

def wpX (P : Program) (n : Nat) (aj al : List (Nat × List Nat)) : Code → Ex → Sg → List Deferred → World → Prop
  | .skip, Q, σ, ds, w => Q .normal σ ds w
  | .region _ ops draw, Q, σ, ds, w =>
    bc draw
      (bc (Nat.beq (headLen P ops.toList) ops.toList.length)
        (bc (P.follows .mixedOrders && Region.lexB .any ops)
          (QuietX w (fun C => quietX P n ops C (fun σ => ∀ w', C w' → Q .normal σ ds w') ops.toList σ))
          False)
        (bc (P.follows .mixedOrders && Region.lexTailB .any ops (headLen P ops.toList))
          (QuietX w (fun C => quietX P n ops C (fun σ => ∀ w', C w' → opsX P n ops (fun σ ds w => Q .normal σ ds w) (fun c σ ds w => Q (.panic c) σ ds w) (ops.toList.drop (headLen P ops.toList)) σ ds w') (ops.toList.take (headLen P ops.toList)) σ))
          (bc (P.follows .mixedOrders && (movesB ops (headLen P ops.toList) (mvL (ops.toList.take (headLen P ops.toList)) 0 []) (hdL (ops.toList.take (headLen P ops.toList)) 0 []) && inBs n (mvL (ops.toList.take (headLen P ops.toList)) 0 [])))
            (QuietX w (fun C => quietX P n ops C (fun σ => ∀ w', C w' → opsX P n ops (fun σ ds w => Q .normal σ ds w) (fun c => pmX (mvL (ops.toList.take (headLen P ops.toList)) 0 []) (fun σ ds w => Q (.panic c) σ ds w)) (ops.toList.drop (headLen P ops.toList)) σ ds w')
              (snds (hdL (ops.toList.take (headLen P ops.toList)) 0 [])) (takeX (mvL (ops.toList.take (headLen P ops.toList)) 0 []) σ)))
            False)))
      (opsX P n ops (fun σ ds w => Q .normal σ ds w) (fun c σ ds w => Q (.panic c) σ ds w) ops.toList σ ds w)
  | .seq a b, Q, σ, ds, w =>
    bc (Nat.ble (ways a) 1) (wpX P n aj al a (thenQ Q (fun σ ds w => wpX P n aj al b Q σ ds w)) σ ds w)
      (JoinX (fun J => wpX P n aj al a (thenQ Q (fun σ' ds' w' => AtX ds' ds (J (pick (look (keyOf b) aj) σ') w'))) σ ds w)
        (fun vs w' => ∀ j, wpX P n aj al b Q (mix σ (asg a) (look (keyOf b) aj) vs j) ds w'))
  | .cond c a b, Q, σ, ds, w => IfX (rd σ c) (wpX P n aj al a Q σ ds w) (wpX P n aj al b Q σ ds w)
  | .block id a, Q, σ, ds, w => wpX P n aj al a (blockQ id Q) σ ds w
  | .loop a, Q, σ, ds, w =>
    LoopX (pick (look (keyOf a) al) σ) w (fun vs w next => ∀ j, wpX P n aj al a (thenQ Q (fun σ' ds' w' => AtX ds' ds (next (pick (look (keyOf a) al) σ') w'))) (mix σ (asg a) (look (keyOf a) al) vs j) ds w)
  | .exit id, Q, σ, ds, w => Q (.exit id) σ ds w
  | .ret, Q, σ, ds, w => Q .ret σ ds w
  | _, _, _, _, _ => False

end Eng
end Go.Proofs.YtfnpfbgnhncgpaaDoor
