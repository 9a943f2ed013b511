/- The engine's rules: what single operations do, on values that are known. -/
import Derived.Test.YtfnpfbgnhncgpaaDoorEngM
import Derived.WalkLawsBesides
import Derived.IntWalk
import Derived.Lib.Strings
namespace Go.Proofs.YtfnpfbgnhncgpaaDoor
set_option linter.unusedVariables false
set_option linter.unusedSimpArgs false
set_option linter.defProp false
set_option linter.unusedSimpArgs false
set_option linter.unusedVariables false
set_option linter.defProp false
namespace Eng
open Go.RowKit

section
variable {P : Program} {w : World} {PK : List PanicEntry → World → Prop} {K : Value → World → Prop}

theorem do_eq {m : Sem Next} {v : Value} {w' : World} (h : m.run P w = .ok (.value v) w') : DoX P m w PK K = K v w' :=
  propext ⟨fun x => by have := x.out; rw [h] at this; exact this, fun x => ⟨by rw [h]; exact x⟩⟩
theorem do_ok {m : Sem Next} {v : Value} {w' : World} (h : m.run P w = .ok (.value v) w') (k : K v w') : DoX P m w PK K := (do_eq h).mpr k
theorem do_skip {m : Sem Next} {w' : World} (h : m.run P w = .ok .skip w') (k : K undef w') : DoX P m w PK K := ⟨by rw [h]; exact k⟩
theorem do_panic {m : Sem Next} {v : Value} {w' : World} (h : m.run P w = .halt (.panic v) w') : DoX P m w PK K = PK [{ v, recovered := false }] w' :=
  propext ⟨fun x => by have := x.out; rw [h] at this; exact this, fun x => ⟨by rw [h]; exact x⟩⟩
theorem mv_run {s : Sem Value} {v : Value} {w' : World} (h : s.run P w = .ok v w') : (mv s).run P w = .ok (.value v) w' := by
  simp [mv, h]
theorem mu_run {s : Sem Unit} {w' : World} (h : s.run P w = .ok () w') : (mu s).run P w = .ok .skip w' := by
  simp [mu, h]
theorem mv_do {s : Sem Value} {v : Value} {w' : World} (h : s.run P w = .ok v w') : DoX P (mv s) w PK K = K v w' := do_eq (mv_run h)

/- INTEGERS -/
theorem b_add {T : TypeId} {k : IntKind} {a b : Int} : DoX P (mBin .add T (.int k a) (.int k b)) w PK K = K (.int k (k.wrap (a + b))) w := mv_do (by simp [binOp, Op.intArith])
theorem b_sub {T : TypeId} {k : IntKind} {a b : Int} : DoX P (mBin .sub T (.int k a) (.int k b)) w PK K = K (.int k (k.wrap (a - b))) w := mv_do (by simp [binOp, Op.intArith])
theorem b_mul {T : TypeId} {k : IntKind} {a b : Int} : DoX P (mBin .mul T (.int k a) (.int k b)) w PK K = K (.int k (k.wrap (a * b))) w := mv_do (by simp [binOp, Op.intArith])
theorem b_lss {T : TypeId} {k : IntKind} {a b : Int} : DoX P (mBin .lss T (.int k a) (.int k b)) w PK K = K (.bool (decide (a < b))) w := mv_do (by simp [binOp, Op.intCmp])
theorem b_leq {T : TypeId} {k : IntKind} {a b : Int} : DoX P (mBin .leq T (.int k a) (.int k b)) w PK K = K (.bool (decide (a ≤ b))) w := mv_do (by simp [binOp, Op.intCmp])
theorem b_gtr {T : TypeId} {k : IntKind} {a b : Int} : DoX P (mBin .gtr T (.int k a) (.int k b)) w PK K = K (.bool (decide (b < a))) w := mv_do (by simp [binOp, Op.intCmp])
theorem b_geq {T : TypeId} {k : IntKind} {a b : Int} : DoX P (mBin .geq T (.int k a) (.int k b)) w PK K = K (.bool (decide (b ≤ a))) w := mv_do (by simp [binOp, Op.intCmp])
theorem r_add {T : TypeId} {k : IntKind} {a b : Int} : (mBin .add T (.int k a) (.int k b)).run P w = .ok (.value (.int k (k.wrap (a + b)))) w := mv_run (by simp [binOp, Op.intArith])
theorem r_sub {T : TypeId} {k : IntKind} {a b : Int} : (mBin .sub T (.int k a) (.int k b)).run P w = .ok (.value (.int k (k.wrap (a - b)))) w := mv_run (by simp [binOp, Op.intArith])
theorem r_mul {T : TypeId} {k : IntKind} {a b : Int} : (mBin .mul T (.int k a) (.int k b)).run P w = .ok (.value (.int k (k.wrap (a * b)))) w := mv_run (by simp [binOp, Op.intArith])
theorem r_quo {T : TypeId} {k : IntKind} {a b : Int} (h : b ≠ 0) : (mBin .quo T (.int k a) (.int k b)).run P w = .ok (.value (.int k (k.wrap (a.tdiv b)))) w := mv_run (by simp [binOp, Op.intDiv, h])
theorem r_rem {T : TypeId} {k : IntKind} {a b : Int} (h : b ≠ 0) : (mBin .rem T (.int k a) (.int k b)).run P w = .ok (.value (.int k (a.tmod b))) w := mv_run (by simp [binOp, Op.intDiv, h])
theorem b_quo {T : TypeId} {k : IntKind} {a b : Int} (h : b ≠ 0) : DoX P (mBin .quo T (.int k a) (.int k b)) w PK K = K (.int k (k.wrap (a.tdiv b))) w := mv_do (by simp [binOp, Op.intDiv, h])
theorem b_rem {T : TypeId} {k : IntKind} {a b : Int} (h : b ≠ 0) : DoX P (mBin .rem T (.int k a) (.int k b)) w PK K = K (.int k (a.tmod b)) w := mv_do (by simp [binOp, Op.intDiv, h])
theorem int_beq (a b : Int) : (a == b) = decide (a = b) := by by_cases h : a = b <;> simp [h]
theorem int_bne (a b : Int) : (a != b) = decide (a ≠ b) := by by_cases h : a = b <;> simp [h]
theorem e_int {T : TypeId} {xo yo : Operand} {k : IntKind} {a b : Int} : DoX P (mEq .eql T xo yo (.int k a) (.int k b)) w PK K = K (.bool (decide (a = b))) w := mv_do (by simp [eqGuard, binOp, Op.intCmp, int_beq])
theorem n_int {T : TypeId} {xo yo : Operand} {k : IntKind} {a b : Int} : DoX P (mEq .neq T xo yo (.int k a) (.int k b)) w PK K = K (.bool (decide (a ≠ b))) w := mv_do (by simp [eqGuard, binOp, Op.intCmp, int_bne])
theorem u_neg {k : IntKind} {a : Int} : DoX P (mUn .neg (.int k a)) w PK K = K (.int k (k.wrap (-a))) w := mv_do (by simp [Op.unary, Op.intArith])
theorem u_not {b : Bool} : DoX P (mUn .not (.bool b)) w PK K = K (.bool (!b)) w := mv_do (by simp [Op.unary])
theorem c_int {S D : TypeId} {k k' : IntKind} {n : Int} (hs : (P.underlying S).isSome = true) (hd : P.underlying D = some (.int k')) : DoX P (mConv S D (.int k n)) w PK K = K (.int k' (k'.wrap n)) w := by
  cases h : P.underlying S with
  | none => rw [h] at hs; cases hs
  | some d => exact mv_do (by simp [convert, run_underlying h, run_underlying hd, Conv.intToInt])

/- BOOLS, WAYS -/
theorem p_pick {c : Bool} {a b : Value} : DoX P (mPick (.bool c) a b) w PK K = K (if c then a else b) w := do_eq (by simp [mPick, asBool])
theorem g_true {b : Bool} {E : (Value → World → Prop) → Prop} : GDo (.bool b) true E w K = ((b = true → E K) ∧ (b = false → K undef w)) := by
  refine propext ⟨fun x => ?_, fun x => ⟨?_⟩⟩
  · have := x.out; cases b
    · exact ⟨fun h => (by cases h), fun _ => this⟩
    · exact ⟨fun _ => this, fun h => (by cases h)⟩
  · cases b
    · exact x.2 rfl
    · exact x.1 rfl
theorem g_false {b : Bool} {E : (Value → World → Prop) → Prop} : GDo (.bool b) false E w K = ((b = false → E K) ∧ (b = true → K undef w)) := by
  refine propext ⟨fun x => ?_, fun x => ⟨?_⟩⟩
  · have := x.out; cases b
    · exact ⟨fun _ => this, fun h => (by cases h)⟩
    · exact ⟨fun h => (by cases h), fun _ => this⟩
  · cases b
    · exact x.1 rfl
    · exact x.2 rfl
theorem i_bool {b : Bool} {A B : Prop} : IfX (.bool b) A B = ((b = true → A) ∧ (b = false → B)) := propext ⟨fun x => x.out, fun x => ⟨x⟩⟩
theorem g_tt {E : (Value → World → Prop) → Prop} : GDo (.bool true) true E w K = E K := propext ⟨fun x => x.out, fun x => ⟨x⟩⟩
theorem g_ft {E : (Value → World → Prop) → Prop} : GDo (.bool false) true E w K = K undef w := propext ⟨fun x => x.out, fun x => ⟨x⟩⟩
theorem g_ff {E : (Value → World → Prop) → Prop} : GDo (.bool false) false E w K = E K := propext ⟨fun x => x.out, fun x => ⟨x⟩⟩
theorem g_tf {E : (Value → World → Prop) → Prop} : GDo (.bool true) false E w K = K undef w := propext ⟨fun x => x.out, fun x => ⟨x⟩⟩
theorem i_t {A B : Prop} : IfX (.bool true) A B = A := propext ⟨fun x => x.out.1 rfl, fun x => ⟨⟨fun _ => x, fun h => (by cases h)⟩⟩⟩
theorem i_f {A B : Prop} : IfX (.bool false) A B = B := propext ⟨fun x => x.out.2 rfl, fun x => ⟨⟨fun h => (by cases h), fun _ => x⟩⟩⟩
theorem p_t {a b : Value} : DoX P (mPick (.bool true) a b) w PK K = K a w := p_pick
theorem p_f {a b : Value} : DoX P (mPick (.bool false) a b) w PK K = K b w := p_pick
theorem nn_t : (!true) = false := rfl
theorem nn_f : (!false) = true := rfl
theorem dec_t {p : Prop} [Decidable p] : (decide p = true) = p := by simp
theorem dec_f {p : Prop} [Decidable p] : (decide p = false) = ¬ p := by simp
theorem not_t {b : Bool} : ((!b) = true) = (b = false) := by simp
theorem not_f {b : Bool} : ((!b) = false) = (b = true) := by simp
theorem eq_tt : (true = true) = True := by simp
theorem eq_tf : (true = false) = False := by simp
theorem eq_ft : (false = true) = False := by simp
theorem eq_ff : (false = false) = True := by simp

/- STRINGS, as lists of bytes -/
theorem str_data (l : List UInt8) : (⟨l.toArray⟩ : ByteArray).data.toList = l := by simp
theorem str_size (l : List UInt8) : (⟨l.toArray⟩ : ByteArray).size = l.length := by simp [ByteArray.size]
theorem str_toList (l : List UInt8) : (⟨l.toArray⟩ : ByteArray).toList = l := by
  rw [ByteArray.toList_eq]
theorem str_append (a b : List UInt8) : (⟨a.toArray⟩ ++ ⟨b.toArray⟩ : ByteArray) = ⟨(a ++ b).toArray⟩ := by
  apply ByteArray.ext
  simp
theorem str_ext {s : ByteArray} : s = ⟨s.data.toList.toArray⟩ := by
  cases s; simp

theorem s_add {T : TypeId} {a b : List UInt8} (h : a.length + b.length ≤ 9223372036854775807) : DoX P (mBin .add T (.string ⟨a.toArray⟩) (.string ⟨b.toArray⟩)) w PK K = K (.string ⟨(a ++ b).toArray⟩) w := by
  refine mv_do ?_
  have e : IntKind.i64.max = 9223372036854775807 := rfl
  have e2 : ¬ (((⟨a.toArray⟩ : ByteArray).size + (⟨b.toArray⟩ : ByteArray).size : Nat) : Int) > IntKind.i64.max := by rw [str_size, str_size, e]; omega
  simp only [binOp, Op.stringOp, if_neg e2, str_append]
  rfl
theorem e_str {T : TypeId} {xo yo : Operand} {a b : List UInt8} : DoX P (mEq .eql T xo yo (.string ⟨a.toArray⟩) (.string ⟨b.toArray⟩)) w PK K = K (.bool (decide (a = b))) w := by
  refine mv_do ?_
  have e : (a == b) = decide (a = b) := by by_cases h : a = b <;> simp [h]
  simp [eqGuard, binOp, Op.stringOp, str_toList, e]
theorem n_str {T : TypeId} {xo yo : Operand} {a b : List UInt8} : DoX P (mEq .neq T xo yo (.string ⟨a.toArray⟩) (.string ⟨b.toArray⟩)) w PK K = K (.bool (decide (a ≠ b))) w := by
  refine mv_do ?_
  have e : (a == b) = decide (a = b) := by by_cases h : a = b <;> simp [h]
  simp [eqGuard, binOp, Op.stringOp, str_toList, e]
theorem s_lss {T : TypeId} {a b : List UInt8} : DoX P (mBin .lss T (.string ⟨a.toArray⟩) (.string ⟨b.toArray⟩)) w PK K = K (.bool (Op.bytesLess a b)) w := mv_do (by simp [binOp, Op.stringOp, str_toList])
theorem s_leq {T : TypeId} {a b : List UInt8} : DoX P (mBin .leq T (.string ⟨a.toArray⟩) (.string ⟨b.toArray⟩)) w PK K = K (.bool (Op.bytesLess a b || a == b)) w := mv_do (by simp [binOp, Op.stringOp, str_toList])
theorem s_gtr {T : TypeId} {a b : List UInt8} : DoX P (mBin .gtr T (.string ⟨a.toArray⟩) (.string ⟨b.toArray⟩)) w PK K = K (.bool (!(Op.bytesLess a b || a == b))) w := mv_do (by simp [binOp, Op.stringOp, str_toList])
theorem s_geq {T : TypeId} {a b : List UInt8} : DoX P (mBin .geq T (.string ⟨a.toArray⟩) (.string ⟨b.toArray⟩)) w PK K = K (.bool (!(Op.bytesLess a b))) w := mv_do (by simp [binOp, Op.stringOp, str_toList])
theorem s_len {T U : TypeId} {cs : Array Bool} {a : List UInt8} (h : P.underlying T = some .string) : DoX P (mB .len #[T] U cs #[.string ⟨a.toArray⟩]) w PK K = K (.int .i64 (a.length : Int)) w := by
  refine do_eq ?_
  simp [mB, builtin, Builtin.len_, run_underlying h, goInt, str_size]
theorem s_ix {T : TypeId} {k : IntKind} {i : Int} {a : List UInt8} {c : UInt8} (h : P.underlying T = some .string) (h0 : 0 ≤ i) (hc : a[i.toNat]? = some c) : DoX P (mIx T (.string ⟨a.toArray⟩) (.int k i)) w PK K = K (.int .u8 (c.toNat : Int)) w := by
  refine mv_do ?_
  have e : (⟨a.toArray⟩ : ByteArray)[i.toNat]? = some c := by
    have hl : i.toNat < a.length := (List.getElem?_eq_some_iff.1 hc).1
    have h1 : i.toNat < (⟨a.toArray⟩ : ByteArray).size := by rw [str_size]; exact hl
    rw [getElem?_pos (⟨a.toArray⟩ : ByteArray) i.toNat h1]
    have h2 := (List.getElem?_eq_some_iff.1 hc).2
    rw [← h2]; rfl
  simp only [Instr.index, asIntOf, run_underlying h, h0, e]
  simp [h0, e, run_underlying h]
theorem s_slice {T : TypeId} {a : List UInt8} {k k' : IntKind} {lo hi : Int} (h : P.underlying T = some .string) (h0 : 0 ≤ lo) (h1 : lo ≤ hi) (h2 : hi ≤ a.length) :
    DoX P (mSlice T (.string ⟨a.toArray⟩) (some (.int k lo)) (some (.int k' hi)) none) w PK K = K (.string ⟨((a.drop lo.toNat).take (hi.toNat - lo.toNat)).toArray⟩) w := by
  refine mv_do ?_
  have e : (⟨a.toArray⟩ : ByteArray).extract lo.toNat hi.toNat = ⟨((a.drop lo.toNat).take (hi.toNat - lo.toNat)).toArray⟩ := by
    rw [str_ext (s := (⟨a.toArray⟩ : ByteArray).extract lo.toNat hi.toNat), Lib.extract_data]
  have g1 : (0 ≤ hi ∧ hi ≤ ((a.length : Nat) : Int)) := by omega
  have g2 : (0 ≤ lo ∧ lo ≤ ((hi.toNat : Nat) : Int)) := by omega
  simp only [Instr.sliceAt, Instr.slice, Instr.sliceBounds, Instr.sliceBound, asIntOf, run_underlying h, str_size]
  have g3 : lo ≤ max hi 0 := by omega
  simp [run_underlying h, str_size, h2, g3, h0, g1.1, e]
theorem s_from {T : TypeId} {a : List UInt8} {k : IntKind} {lo : Int} (h : P.underlying T = some .string) (h0 : 0 ≤ lo) (h1 : lo ≤ a.length) :
    DoX P (mSlice T (.string ⟨a.toArray⟩) (some (.int k lo)) none none) w PK K = K (.string ⟨(a.drop lo.toNat).toArray⟩) w := by
  refine mv_do ?_
  have e : (⟨a.toArray⟩ : ByteArray).extract lo.toNat a.length = ⟨(a.drop lo.toNat).toArray⟩ := by
    rw [str_ext (s := (⟨a.toArray⟩ : ByteArray).extract lo.toNat a.length), Lib.extract_data]
    rw [List.take_of_length_le (by simp)]
  have g2 : (0 ≤ lo ∧ lo ≤ ((a.length : Nat) : Int)) := by omega
  simp only [Instr.sliceAt, Instr.slice, Instr.sliceBounds, Instr.sliceBound, asIntOf, run_underlying h, str_size]
  simp [run_underlying h, str_size, h0, h1, e]
theorem s_upto {T : TypeId} {a : List UInt8} {k' : IntKind} {hi : Int} (h : P.underlying T = some .string) (h1 : 0 ≤ hi) (h2 : hi ≤ a.length) :
    DoX P (mSlice T (.string ⟨a.toArray⟩) none (some (.int k' hi)) none) w PK K = K (.string ⟨(a.take hi.toNat).toArray⟩) w := by
  refine mv_do ?_
  have e : (⟨a.toArray⟩ : ByteArray).extract 0 hi.toNat = ⟨(a.take hi.toNat).toArray⟩ := by
    rw [str_ext (s := (⟨a.toArray⟩ : ByteArray).extract 0 hi.toNat), Lib.extract_data]
    simp
  have g1 : (0 ≤ hi ∧ hi ≤ ((a.length : Nat) : Int)) := by omega
  simp only [Instr.sliceAt, Instr.slice, Instr.sliceBounds, Instr.sliceBound, asIntOf, run_underlying h, str_size]
  simp [run_underlying h, str_size, h1, h2, e]
/- TUPLES, STRUCTS, INTERFACES, FUNCTIONS -/
theorem x_ext {l : List Value} {i : Nat} {v : Value} (h : l[i]? = some v) : DoX P (mExt (.tuple l.toArray) i) w PK K = K v w := mv_do (by simp [Instr.extract, h])
theorem m_func {fn : Fn} {a b : Array Value} : DoX P (mFunc fn a b) w PK K = K (.func fn a b) w := mv_do rfl
theorem m_nil {a : Addr} : DoX P (mNil (.pointer (some a))) w PK K = K (.pointer (some a)) w := do_eq (by simp [mNil, execOp])
theorem m_panic {T : TypeId} {x : Value} : DoX P (mPanic (.iface T x)) w PK K = PK [{ v := .iface T x, recovered := false }] w := by
  have h : (mPanic (.iface T x)).run P w = .halt (.panic (.iface T x)) w := by simp [mPanic, mv, Instr.panic, goPanic, Sem.run, bind, Sem.bind]
  exact do_panic h
def notIface (P : Program) (T : TypeId) : Bool := match P.underlying T with | some (.interface _) => false | some _ => true | none => false
theorem m_iface {T : TypeId} {x : Value} (h : notIface P T = true) : DoX P (mIface T x) w PK K = K (.iface T x) w := by
  unfold notIface at h
  cases hu : P.underlying T with
  | none => rw [hu] at h; cases h
  | some d =>
    rw [hu] at h
    refine mv_do ?_
    cases d <;> first | (cases h; done) | simp [Instr.makeInterface, run_underlying hu]
theorem run_eq_nil {T : TypeId} {ms : Array (String × TypeId)} (h : P.underlying T = some (.interface ms)) : (Op.equal T .nilIface .nilIface).run P w = .ok true w := by
  show (Op.equalIn (9999 + 1) T .nilIface .nilIface).run P w = _
  rw [Op.equalIn]
  simp [run_underlying h]
theorem run_eq_some {T U : TypeId} {v : Value} {ms : Array (String × TypeId)} (h : P.underlying T = some (.interface ms)) : (Op.equal T (.iface U v) .nilIface).run P w = .ok false w := by
  show (Op.equalIn (9999 + 1) T (.iface U v) .nilIface).run P w = _
  rw [Op.equalIn]
  simp [run_underlying h]
theorem e_nil {T : TypeId} {ms : Array (String × TypeId)} {xo : Operand} {c : Value} (h : P.underlying T = some (.interface ms)) : DoX P (mEq .eql T xo (.const c) .nilIface .nilIface) w PK K = K (.bool true) w := by
  refine mv_do ?_
  have e : (eqGuard .eql T xo (.const c) .nilIface .nilIface) = pure () := by cases xo <;> rfl
  rw [e]
  simp [binOp, run_eq_nil h]
theorem e_some {T U : TypeId} {ms : Array (String × TypeId)} {xo yo : Operand} {v : Value} (h : P.underlying T = some (.interface ms)) : DoX P (mEq .eql T xo yo (.iface U v) .nilIface) w PK K = K (.bool false) w := by
  refine mv_do ?_
  have e : (eqGuard .eql T xo yo (.iface U v) .nilIface) = pure () := rfl
  rw [e]
  simp [binOp, run_eq_some h]
theorem n_nil {T : TypeId} {ms : Array (String × TypeId)} {xo : Operand} {c : Value} (h : P.underlying T = some (.interface ms)) : DoX P (mEq .neq T xo (.const c) .nilIface .nilIface) w PK K = K (.bool false) w := by
  refine mv_do ?_
  have e : (eqGuard .neq T xo (.const c) .nilIface .nilIface) = pure () := by cases xo <;> rfl
  rw [e]
  simp [binOp, run_eq_nil h]
theorem n_some {T U : TypeId} {ms : Array (String × TypeId)} {xo yo : Operand} {v : Value} (h : P.underlying T = some (.interface ms)) : DoX P (mEq .neq T xo yo (.iface U v) .nilIface) w PK K = K (.bool true) w := by
  refine mv_do ?_
  have e : (eqGuard .neq T xo yo (.iface U v) .nilIface) = pure () := rfl
  rw [e]
  simp [binOp, run_eq_some h]
theorem t_hit {A xT : TypeId} {v : Value} (h : notIface P A = true) : DoX P (mTA (.iface A v) xT A true) w PK K = K (.tuple #[v, .bool true]) w := by
  unfold notIface at h
  cases hu : P.underlying A with
  | none => rw [hu] at h; cases h
  | some d =>
    rw [hu] at h
    refine mv_do ?_
    cases d <;> first | (cases h; done) | simp [Instr.typeAssert, run_underlying hu]
/- CALLS -/
/-- The call returns, and what it returns and leaves is so. -/
def RetK (R : Value → World → Prop) : Ending → World → Prop := fun e w' => ∃ v, e = .returned v ∧ R v w'
theorem retK {R : Value → World → Prop} {v : Value} {w : World} (h : R v w) : RetK R (.returned v) w := ⟨v, rfl, h⟩
def Ret (P : Program) (f : Nat) (args : Array Value) (w : World) (R : Value → World → Prop) : Prop := Calls P f args w (RetK R)
theorem ret_of {f : Nat} {args : Array Value} {R : Value → World → Prop} (h : ∀ K : Ending → World → Prop, (∀ v w', R v w' → K (.returned v) w') → Calls P f args w K) : Ret P f args w R := h _ (fun v w' r => retK r)
def PanK (R : List PanicEntry → World → Prop) : Ending → World → Prop := fun e w' => ∃ c, e = .panicked c ∧ R c w'
theorem panK {R : List PanicEntry → World → Prop} {c : List PanicEntry} {w : World} (h : R c w) : PanK R (.panicked c) w := ⟨c, rfl, h⟩
def Pan (P : Program) (f : Nat) (args : Array Value) (w : World) (R : List PanicEntry → World → Prop) : Prop := Calls P f args w (PanK R)
theorem pan_of {f : Nat} {args : Array Value} {R : List PanicEntry → World → Prop} (h : ∀ K : Ending → World → Prop, (∀ v w', R v w' → K (.panicked v) w') → Calls P f args w K) : Pan P f args w R := h _ (fun v w' r => panK r)
theorem Ret.mono {f : Nat} {args : Array Value} {R R' : Value → World → Prop} (h : Ret P f args w R) (k : ∀ v w', R v w' → R' v w') : Ret P f args w R' :=
  Calls.mono h fun _ _ ⟨v, he, hr⟩ => ⟨v, he, k _ _ hr⟩
theorem c_ret {f : Nat} {args : Array Value} {R : Value → World → Prop} (h : Ret P f args w R) (k : ∀ v w', R v w' → K v w') : CallX P f args w PK K :=
  ⟨Calls.mono h fun e w' ⟨v, he, hr⟩ => by subst he; exact k _ _ hr⟩
/-- The same, where the value is told and the world is as it was. -/
theorem c_eq {f : Nat} {args : Array Value} {v : Value} (h : Ret P f args w (fun v' w' => v' = v ∧ w = w')) (k : K v w) : CallX P f args w PK K :=
  c_ret h fun v' w' ⟨hv, hw⟩ => by subst hv; subst hw; exact k
theorem c_pan {f : Nat} {args : Array Value} {R : List PanicEntry → World → Prop} (h : Pan P f args w R) (k : ∀ c w', R c w' → PK c w') : CallX P f args w PK K :=
  ⟨Calls.mono h fun e w' ⟨v, he, hr⟩ => by subst he; exact k _ _ hr⟩
theorem c_any {f : Nat} {args : Array Value} {R : Ending → World → Prop} (h : Calls P f args w R) (k : ∀ e w', R e w' → Cont K PK e w') : CallX P f args w PK K :=
  ⟨Calls.mono h k⟩
theorem c_val {f : Nat} {args fa ca : Array Value} (hp : plainB P f = true) (h : CallX P f (fa ++ args ++ ca) w PK K) : DoX P (mCallV (.func (.func f) fa ca) args) w PK K := by
  refine ⟨?_⟩
  have e : (mCallV (.func (.func f) fa ca) args).run P w = .ok (.enter f (fa ++ args ++ ca)) w := by
    unfold mCallV
    simp only [Deferred.ofValue, invoke, bind, pure, Sem.bind]
    exact plain_run hp _ _
  rw [e]
  exact h
end

/- JOINS, LOOPS, QUIET REGIONS -/
theorem join {F : (List Value → World → Prop) → Prop} {R : List Value → World → Prop} (h : ∀ J : List Value → World → Prop, (∀ vs w, R vs w → J vs w) → F J) : JoinX F R := ⟨h⟩
/-- A round's end: what holds again, and that the measure has gone down. -/
def NextX (I : List Value → World → Prop) (μ : List Value → World → Nat) (vs : List Value) (w : World) : List Value → World → Prop := fun vs' w' => I vs' w' ∧ μ vs' w' < μ vs w
theorem nextX {I : List Value → World → Prop} {μ : List Value → World → Nat} {vs vs' : List Value} {w w' : World} (h : I vs' w') (hm : μ vs' w' < μ vs w) : NextX I μ vs w vs' w' := ⟨h, hm⟩
theorem loop {vs : List Value} {w : World} {F : List Value → World → (List Value → World → Prop) → Prop} (I : List Value → World → Prop) (μ : List Value → World → Nat)
    (h0 : I vs w) (hs : ∀ vs w, I vs w → F vs w (NextX I μ vs w)) : LoopX vs w F := ⟨I, μ, h0, hs⟩
theorem quiet {w : World} {F : (World → Prop) → Prop} (h : F (Below w.heap.size w)) : QuietX w F := ⟨h⟩
section
variable {P : Program} {C : World → Prop} {K : Value → Prop}
theorem q_do {m : Sem Next} (v : Value) (h : ∀ w, m.run P w = .ok (.value v) w) (k : K v) : QDo P C m K :=
  ⟨v, fun w _ => by rw [h w]; exact ⟨rfl, rfl⟩, k⟩
theorem q_at {m : Sem Next} (v : Value) (h : ∀ w, C w → m.run P w = .ok (.value v) w) (k : K v) : QDo P C m K :=
  ⟨v, fun w hw => by rw [h w hw]; exact ⟨rfl, rfl⟩, k⟩
theorem q_call {f : Nat} {args : Array Value} (v : Value) (h : ∀ w, C w → Ret P f args w (fun v' w' => v' = v ∧ C w')) (k : K v) : QCall P C f args K :=
  ⟨v, fun w hw => Calls.mono (h w hw) fun _ _ ⟨_, he, hv, hc⟩ => ⟨by rw [he, hv], hc⟩, k⟩
end
/-- The rules that need nothing, for 'simp only [rs]'; 'sp': the ways at a test that is open. -/
def rs := And.intro @b_add (And.intro @b_sub (And.intro @b_mul (And.intro @b_lss (And.intro @b_leq (And.intro @b_gtr (And.intro @b_geq (And.intro @e_int (And.intro @n_int (And.intro @u_neg (And.intro @u_not (And.intro @p_t (And.intro @p_f (And.intro @g_tt (And.intro @g_ft (And.intro @g_ff (And.intro @g_tf (And.intro @i_t (And.intro @i_f (And.intro @e_str (And.intro @n_str (And.intro @s_lss (And.intro @s_leq (And.intro @s_gtr (And.intro @s_geq (And.intro @m_func (And.intro @m_nil (And.intro @m_panic (And.intro @nn_t (@nn_f)))))))))))))))))))))))))))))
def sp := And.intro @p_pick (And.intro @g_true (And.intro @g_false (And.intro @i_bool (And.intro @dec_t (And.intro @dec_f (And.intro @not_t (And.intro @not_f (And.intro @eq_tt (And.intro @eq_tf (And.intro @eq_ft (@eq_ff)))))))))))
theorem gd0 {a : Value} {l : List Value} : (a :: l).getD 0 undef = a := rfl
theorem gd1 {a b : Value} {l : List Value} : (a :: b :: l).getD 1 undef = b := rfl
theorem gd2 {a b c : Value} {l : List Value} : (a :: b :: c :: l).getD 2 undef = c := rfl
theorem gd3 {a b c d : Value} {l : List Value} : (a :: b :: c :: d :: l).getD 3 undef = d := rfl
theorem gd4 {a b c d e : Value} {l : List Value} : (a :: b :: c :: d :: e :: l).getD 4 undef = e := rfl
theorem gd5 {a b c d e f : Value} {l : List Value} : (a :: b :: c :: d :: e :: f :: l).getD 5 undef = f := rfl
def gd := And.intro @gd0 (And.intro @gd1 (And.intro @gd2 (And.intro @gd3 (And.intro @gd4 @gd5))))
theorem wrap64_id {n : Int} (h1 : -9223372036854775808 ≤ n) (h2 : n ≤ 9223372036854775807) : IntKind.wrap .i64 n = n := IntWalk.i64_in n (by omega)
end Eng
end Go.Proofs.YtfnpfbgnhncgpaaDoor
