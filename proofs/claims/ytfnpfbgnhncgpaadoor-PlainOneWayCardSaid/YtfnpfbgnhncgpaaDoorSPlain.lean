/- Code in continuation form, by program (gen.py): 14 functions. -/
import Derived.Test.YtfnpfbgnhncgpaaDoorEngM
import Derived.Test.YtfnpfbgnhncgpaaDoorRows
namespace Go.Proofs.YtfnpfbgnhncgpaaDoor
set_option linter.unusedVariables false
set_option linter.unusedSimpArgs false
set_option linter.defProp false
set_option linter.unusedVariables false
set_option maxRecDepth 20000
open Eng

/- plain.Int -/
def S_plain_Int (t0 : Value) (w : World) (K : Ending → World → Prop) : Prop :=
 DoX Tryd.prog (mBin .lss 2 t0 (.int .i64 (-2147483647))) w (pk K) fun t5 w =>
 GDo t5 false (fun E => E t0 w) w fun t7 w =>
 GDo t5 false (fun E => DoX Tryd.prog (mBin .gtr 2 t7 (.int .i64 2147483647)) w (pk K) E) w fun t8 w =>
 DoX Tryd.prog (mPick t5 (.bool true) t8) w (pk K) fun t9 w =>
 IfX t9 (K (.returned (.tuple #[(.string ⟨#[]⟩), (.int .i64 2)])) w) (CallX Tryd.prog 80 #[t0, (.int .i64 10)] w (pk K) fun t11 w =>
 K (.returned (.tuple #[t11, (.int .i64 0)])) w)
theorem S_plain_Int_eq (t0 : Value) (w : World) (K : Ending → World → Prop) : wpX Tryd.prog 12 [] [] (bodyOf Tryd.f37) (topQ Tryd.prog [.tmp 2, .tmp 3] K) (startX [t0]) [] w = S_plain_Int t0 w K := by kernel_rfl
theorem S_plain_Int_ok {t0 : Value} {w : World} {K : Ending → World → Prop} (h : S_plain_Int t0 w K) : Calls Tryd.prog 37 #[t0] w K :=
  calls_of_wpX Tryd.func37 rfl rfl rfl rfl (Eq.mpr (S_plain_Int_eq t0 w K) h)

/- plain.Real -/
def S_plain_Real (t0 : Value) (w : World) (K : Ending → World → Prop) : Prop :=
 DoX Tryd.prog (mBin .lss 2 t0 (.int .i64 (-1073741824))) w (pk K) fun t5 w =>
 GDo t5 false (fun E => E t0 w) w fun t7 w =>
 GDo t5 false (fun E => DoX Tryd.prog (mBin .gtr 2 t7 (.int .i64 1073741824)) w (pk K) E) w fun t8 w =>
 DoX Tryd.prog (mPick t5 (.bool true) t8) w (pk K) fun t9 w =>
 IfX t9 (K (.returned (.tuple #[(.string ⟨#[]⟩), (.int .i64 2)])) w) (CallX Tryd.prog 24 #[t0] w (pk K) fun t11 w =>
 K (.returned (.tuple #[t11, (.int .i64 0)])) w)
theorem S_plain_Real_eq (t0 : Value) (w : World) (K : Ending → World → Prop) : wpX Tryd.prog 12 [] [] (bodyOf Tryd.f39) (topQ Tryd.prog [.tmp 2, .tmp 3] K) (startX [t0]) [] w = S_plain_Real t0 w K := by kernel_rfl
theorem S_plain_Real_ok {t0 : Value} {w : World} {K : Ending → World → Prop} (h : S_plain_Real t0 w K) : Calls Tryd.prog 39 #[t0] w K :=
  calls_of_wpX Tryd.func39 rfl rfl rfl rfl (Eq.mpr (S_plain_Real_eq t0 w K) h)

/- plain.String -/
def S_plain_String (t0 : Value) (w : World) (K : Ending → World → Prop) : Prop :=
 DoX Tryd.prog (mB .len #[9] 3 #[false] #[t0]) w (pk K) fun t5 w =>
 DoX Tryd.prog (mBin .gtr 3 t5 (.int .i64 32767)) w (pk K) fun t6 w =>
 IfX t6 (K (.returned (.tuple #[(.string ⟨#[]⟩), (.int .i64 5)])) w) (CallX Tryd.prog 82 #[(.string ⟨#[40]⟩), t0, (.string ⟨#[41]⟩), (.func (.func 83) #[] #[])] w (pk K) fun t8 w =>
 K (.returned (.tuple #[t8, (.int .i64 0)])) w)
theorem S_plain_String_eq (t0 : Value) (w : World) (K : Ending → World → Prop) : wpX Tryd.prog 9 [] [] (bodyOf Tryd.f41) (topQ Tryd.prog [.tmp 2, .tmp 3] K) (startX [t0]) [] w = S_plain_String t0 w K := by kernel_rfl
theorem S_plain_String_ok {t0 : Value} {w : World} {K : Ending → World → Prop} (h : S_plain_String t0 w K) : Calls Tryd.prog 41 #[t0] w K :=
  calls_of_wpX Tryd.func41 rfl rfl rfl rfl (Eq.mpr (S_plain_String_eq t0 w K) h)

/- plain.Hex -/
def S_plain_Hex (t0 : Value) (w : World) (K : Ending → World → Prop) : Prop :=
 DoX Tryd.prog (mB .len #[9] 3 #[false] #[t0]) w (pk K) fun t5 w =>
 DoX Tryd.prog (mBin .gtr 3 t5 (.int .i64 32767)) w (pk K) fun t6 w =>
 IfX t6 (K (.returned (.tuple #[(.string ⟨#[]⟩), (.int .i64 5)])) w) (CallX Tryd.prog 85 #[t0] w (pk K) fun t8 w =>
 DoX Tryd.prog (mBin .add 9 (.string ⟨#[60]⟩) t8) w (pk K) fun t9 w =>
 DoX Tryd.prog (mBin .add 9 t9 (.string ⟨#[62]⟩)) w (pk K) fun t10 w =>
 K (.returned (.tuple #[t10, (.int .i64 0)])) w)
theorem S_plain_Hex_eq (t0 : Value) (w : World) (K : Ending → World → Prop) : wpX Tryd.prog 11 [] [] (bodyOf Tryd.f43) (topQ Tryd.prog [.tmp 2, .tmp 3] K) (startX [t0]) [] w = S_plain_Hex t0 w K := by kernel_rfl
theorem S_plain_Hex_ok {t0 : Value} {w : World} {K : Ending → World → Prop} (h : S_plain_Hex t0 w K) : Calls Tryd.prog 43 #[t0] w K :=
  calls_of_wpX Tryd.func43 rfl rfl rfl rfl (Eq.mpr (S_plain_Hex_eq t0 w K) h)

/- plain.Name -/
def S_plain_Name (t0 : Value) (w : World) (K : Ending → World → Prop) : Prop :=
 DoX Tryd.prog (mB .len #[9] 3 #[false] #[t0]) w (pk K) fun t6 w =>
 DoX Tryd.prog (mBin .gtr 3 t6 (.int .i64 127)) w (pk K) fun t7 w =>
 IfX t7 (K (.returned (.tuple #[(.string ⟨#[]⟩), (.int .i64 5)])) w) (CallX Tryd.prog 86 #[t0, (.int .u8 0)] w (pk K) fun t10 w =>
 DoX Tryd.prog (mBin .geq 3 t10 (.int .i64 0)) w (pk K) fun t11 w =>
 IfX t11 (K (.returned (.tuple #[(.string ⟨#[]⟩), (.int .i64 3)])) w) (CallX Tryd.prog 82 #[(.string ⟨#[47]⟩), t0, (.string ⟨#[]⟩), (.func (.func 87) #[] #[])] w (pk K) fun t13 w =>
 K (.returned (.tuple #[t13, (.int .i64 0)])) w))
theorem S_plain_Name_eq (t0 : Value) (w : World) (K : Ending → World → Prop) : wpX Tryd.prog 14 [] [] (bodyOf Tryd.f45) (topQ Tryd.prog [.tmp 2, .tmp 3] K) (startX [t0]) [] w = S_plain_Name t0 w K := by kernel_rfl
theorem S_plain_Name_ok {t0 : Value} {w : World} {K : Ending → World → Prop} (h : S_plain_Name t0 w K) : Calls Tryd.prog 45 #[t0] w K :=
  calls_of_wpX Tryd.func45 rfl rfl rfl rfl (Eq.mpr (S_plain_Name_eq t0 w K) h)

/- plain.Join -/
def S_plain_Join_2 (t4 t9 : Value) (w : World) (N1 : List Value → World → Prop) (K : Ending → World → Prop) : Prop :=
 DoX Tryd.prog (mBin .add 3 t9 (.int .i64 1)) w (pk K) fun t34 w =>
 N1 [t4, t34] w
def S_plain_Join_1 (t3 t6 : Value) (w : World) (J2 : List Value → World → Prop) (K : Ending → World → Prop) : Prop :=
 CallX Tryd.prog 89 #[t3, t6] w (pk K) fun t28 w =>
 DoX Tryd.prog (mB .len #[9] 3 #[false] #[t6]) w (pk K) fun t31 w =>
 DoX Tryd.prog (mBin .sub 3 t31 (.int .i64 1)) w (pk K) fun t32 w =>
 DoX Tryd.prog (mIx 9 t6 t32) w (pk K) fun t33 w =>
 J2 [t33] w
def S_plain_Join_0 (t3 t4 t7 t8 t9 : Value) (w : World) (N1 : List Value → World → Prop) (K : Ending → World → Prop) : Prop :=
 DoX Tryd.prog (mBin .lss 3 t9 t8) w (pk K) fun t10 w =>
 IfX t10 (JoinX (fun J2 =>
 DoX Tryd.prog (mIA 37 t7 t9) w (pk K) fun t11 w =>
 DoX Tryd.prog (mLoad 9 t11) w (pk K) fun t12 w =>
 DoX Tryd.prog (mEq .eql 9 (.tmp 13) (.const (.string ⟨#[]⟩)) t12 (.string ⟨#[]⟩)) w (pk K) fun t14 w =>
 IfX t14 (J2 [t4] w) (JoinX (fun J3 =>
 CallX Tryd.prog 91 #[t4] w (pk K) fun t16 w =>
 GDo t16 false (fun E => E t4 w) w fun t18 w =>
 GDo t16 false (fun E => DoX Tryd.prog (mEq .eql 5 (.tmp 18) (.const (.int .u8 47)) t18 (.int .u8 47)) w (pk K) E) w fun t19 w =>
 DoX Tryd.prog (mPick t16 (.bool true) t19) w (pk K) fun t20 w =>
 GDo t20 true (fun E => E t12 w) w fun t22 w =>
 GDo t20 true (fun E => DoX Tryd.prog (mIx 9 t22 (.int .i64 0)) w (pk K) E) w fun t23 w =>
 GDo t20 true (fun E => CallX Tryd.prog 91 #[t23] w (pk K) E) w fun t24 w =>
 DoX Tryd.prog (mPick t20 t24 (.bool false)) w (pk K) fun t25 w =>
 IfX t25 (CallX Tryd.prog 84 #[t3, (.int .u8 32)] w (pk K) fun t26 w =>
 J3 [] w) (J3 [] w)) (fun vs3 w => ∀ _ : Sg, S_plain_Join_1 t3 t12 w J2 K))) (fun vs2 w => ∀ _ : Sg, S_plain_Join_2 (vs2.getD 0 undef) t9 w N1 K)) (CallX Tryd.prog 92 #[t3] w (pk K) fun t35 w =>
 K (.returned t35) w)
def S_plain_Join (t0 : Value) (w : World) (K : Ending → World → Prop) : Prop :=
 DoX Tryd.prog (mAlloc 95) w (pk K) fun t3 w =>
 DoX Tryd.prog (mB .len #[37] 3 #[false] #[t0]) w (pk K) fun t8 w =>
 LoopX [(.int .u8 32), (.int .i64 0)] w (fun vs1 w N1 => ∀ _ : Sg, S_plain_Join_0 t3 (vs1.getD 0 undef) t0 t8 (vs1.getD 1 undef) w N1 K)
theorem S_plain_Join_eq (t0 : Value) (w : World) (K : Ending → World → Prop) : wpX Tryd.prog 36 [(9, []), (11, [4])] [(4, [4, 9])] (bodyOf Tryd.f47) (topQ Tryd.prog [.tmp 2] K) (startX [t0]) [] w = S_plain_Join t0 w K := by kernel_rfl
theorem S_plain_Join_ok {t0 : Value} {w : World} {K : Ending → World → Prop} (h : S_plain_Join t0 w K) : Calls Tryd.prog 47 #[t0] w K :=
  calls_of_wpX Tryd.func47 rfl rfl rfl rfl (Eq.mpr (S_plain_Join_eq t0 w K) h)

/- plain.Pad -/
def S_plain_Pad (t0 t1 : Value) (w : World) (K : Ending → World → Prop) : Prop :=
 CallX Tryd.prog 94 #[t0] w (pk K) fun t7 w =>
 DoX Tryd.prog (mBin .lss 3 t0 (.int .i64 0)) w (pk K) fun t9 w =>
 GDo t9 false (fun E => E t1 w) w fun t11 w =>
 GDo t9 false (fun E => DoX Tryd.prog (mBin .lss 3 t11 (.int .i64 1)) w (pk K) E) w fun t12 w =>
 DoX Tryd.prog (mPick t9 (.bool true) t12) w (pk K) fun t13 w =>
 GDo t13 false (fun E => E t1 w) w fun t15 w =>
 GDo t13 false (fun E => DoX Tryd.prog (mBin .gtr 3 t15 (.int .i64 20)) w (pk K) E) w fun t16 w =>
 DoX Tryd.prog (mPick t13 (.bool true) t16) w (pk K) fun t17 w =>
 GDo t17 false (fun E => E t7 w) w fun t19 w =>
 GDo t17 false (fun E => DoX Tryd.prog (mB .len #[9] 3 #[false] #[t19]) w (pk K) E) w fun t20 w =>
 GDo t17 false (fun E => E t1 w) w fun t21 w =>
 GDo t17 false (fun E => DoX Tryd.prog (mBin .gtr 3 t20 t21) w (pk K) E) w fun t22 w =>
 DoX Tryd.prog (mPick t17 (.bool true) t22) w (pk K) fun t23 w =>
 IfX t23 (K (.returned (.string ⟨#[]⟩)) w) (DoX Tryd.prog (mB .len #[9] 3 #[false] #[t7]) w (pk K) fun t26 w =>
 DoX Tryd.prog (mBin .sub 3 t1 t26) w (pk K) fun t27 w =>
 CallX Tryd.prog 95 #[(.string ⟨#[48]⟩), t27] w (pk K) fun t28 w =>
 DoX Tryd.prog (mBin .add 9 t28 t7) w (pk K) fun t30 w =>
 K (.returned t30) w)
theorem S_plain_Pad_eq (t0 t1 : Value) (w : World) (K : Ending → World → Prop) : wpX Tryd.prog 31 [] [] (bodyOf Tryd.f49) (topQ Tryd.prog [.tmp 4] K) (startX [t0, t1]) [] w = S_plain_Pad t0 t1 w K := by kernel_rfl
theorem S_plain_Pad_ok {t0 t1 : Value} {w : World} {K : Ending → World → Prop} (h : S_plain_Pad t0 t1 w K) : Calls Tryd.prog 49 #[t0, t1] w K :=
  calls_of_wpX Tryd.func49 rfl rfl rfl rfl (Eq.mpr (S_plain_Pad_eq t0 t1 w K) h)

/- plain.write -/
def S_plain_write_0 (t1 t2 t3 t9 t23 t24 : Value) (w : World) (N1 : List Value → World → Prop) (K : Ending → World → Prop) : Prop :=
 DoX Tryd.prog (mBin .lss 3 t24 t23) w (pk K) fun t25 w =>
 IfX t25 (DoX Tryd.prog (mIx 9 t1 t24) w (pk K) fun t30 w =>
 DoX Tryd.prog (mCallV t3 #[t9, t30]) w (pk K) fun t31 w =>
 DoX Tryd.prog (mBin .add 3 t24 (.int .i64 1)) w (pk K) fun t32 w =>
 N1 [t32] w) (CallX Tryd.prog 89 #[t9, t2] w (pk K) fun t34 w =>
 CallX Tryd.prog 92 #[t9] w (pk K) fun t35 w =>
 K (.returned t35) w)
def S_plain_write (t0 t1 t2 t3 : Value) (w : World) (K : Ending → World → Prop) : Prop :=
 DoX Tryd.prog (mAlloc 95) w (pk K) fun t9 w =>
 DoX Tryd.prog (mB .len #[9] 3 #[false] #[t0]) w (pk K) fun t12 w =>
 DoX Tryd.prog (mB .len #[9] 3 #[false] #[t1]) w (pk K) fun t14 w =>
 DoX Tryd.prog (mBin .add 3 t12 t14) w (pk K) fun t15 w =>
 DoX Tryd.prog (mB .len #[9] 3 #[false] #[t2]) w (pk K) fun t17 w =>
 DoX Tryd.prog (mBin .add 3 t15 t17) w (pk K) fun t18 w =>
 CallX Tryd.prog 131 #[t9, t18] w (pk K) fun t19 w =>
 CallX Tryd.prog 89 #[t9, t0] w (pk K) fun t21 w =>
 DoX Tryd.prog (mB .len #[9] 3 #[false] #[t1]) w (pk K) fun t23 w =>
 LoopX [(.int .i64 0)] w (fun vs1 w N1 => ∀ _ : Sg, S_plain_write_0 t1 t2 t3 t9 t23 (vs1.getD 0 undef) w N1 K)
theorem S_plain_write_eq (t0 t1 t2 t3 : Value) (w : World) (K : Ending → World → Prop) : wpX Tryd.prog 36 [] [(5, [24])] (bodyOf Tryd.f82) (topQ Tryd.prog [.tmp 8] K) (startX [t0, t1, t2, t3]) [] w = S_plain_write t0 t1 t2 t3 w K := by kernel_rfl
theorem S_plain_write_ok {t0 t1 t2 t3 : Value} {w : World} {K : Ending → World → Prop} (h : S_plain_write t0 t1 t2 t3 w K) : Calls Tryd.prog 82 #[t0, t1, t2, t3] w K :=
  calls_of_wpX Tryd.func82 rfl rfl rfl rfl (Eq.mpr (S_plain_write_eq t0 t1 t2 t3 w K) h)

/- plain.String$1 -/
def S_plain_String_1_0 (t0 t1 t34 t35 : Value) (w : World) (N1 : List Value → World → Prop) (K : Ending → World → Prop) : Prop :=
 DoX Tryd.prog (mBin .lss 3 t35 (.int .i64 3)) w (pk K) fun t36 w =>
 IfX t36 (DoX Tryd.prog (mIx 88 t34 t35) w (pk K) fun t37 w =>
 DoX Tryd.prog (mBin .quo 5 t1 t37) w (pk K) fun t41 w =>
 DoX Tryd.prog (mBin .rem 5 t41 (.int .u8 8)) w (pk K) fun t42 w =>
 DoX Tryd.prog (mBin .add 5 (.int .u8 48) t42) w (pk K) fun t43 w =>
 CallX Tryd.prog 84 #[t0, t43] w (pk K) fun t44 w =>
 DoX Tryd.prog (mBin .add 3 t35 (.int .i64 1)) w (pk K) fun t45 w =>
 N1 [t45] w) (K (.returned (.tuple #[])) w)
def S_plain_String_1 (t0 t1 : Value) (w : World) (K : Ending → World → Prop) : Prop :=
 DoX Tryd.prog (mEq .eql 5 (.tmp 10) (.const (.int .u8 40)) t1 (.int .u8 40)) w (pk K) fun t11 w =>
 GDo t11 false (fun E => E t1 w) w fun t13 w =>
 GDo t11 false (fun E => DoX Tryd.prog (mEq .eql 5 (.tmp 13) (.const (.int .u8 41)) t13 (.int .u8 41)) w (pk K) E) w fun t14 w =>
 DoX Tryd.prog (mPick t11 (.bool true) t14) w (pk K) fun t15 w =>
 GDo t15 false (fun E => E t1 w) w fun t17 w =>
 GDo t15 false (fun E => DoX Tryd.prog (mEq .eql 5 (.tmp 17) (.const (.int .u8 92)) t17 (.int .u8 92)) w (pk K) E) w fun t18 w =>
 DoX Tryd.prog (mPick t15 (.bool true) t18) w (pk K) fun t19 w =>
 IfX t19 (CallX Tryd.prog 84 #[t0, (.int .u8 92)] w (pk K) fun t21 w =>
 CallX Tryd.prog 84 #[t0, t1] w (pk K) fun t24 w =>
 K (.returned (.tuple #[])) w) (DoX Tryd.prog (mBin .lss 5 t1 (.int .u8 32)) w (pk K) fun t27 w =>
 GDo t27 false (fun E => E t1 w) w fun t29 w =>
 GDo t27 false (fun E => DoX Tryd.prog (mBin .gtr 5 t29 (.int .u8 126)) w (pk K) E) w fun t30 w =>
 DoX Tryd.prog (mPick t27 (.bool true) t30) w (pk K) fun t31 w =>
 IfX t31 (CallX Tryd.prog 84 #[t0, (.int .u8 92)] w (pk K) fun t33 w =>
 DoX Tryd.prog (mBuild 88 #[(0, (.int .u8 64)), (1, (.int .u8 8)), (2, (.int .u8 1))]) w (pk K) fun t34 w =>
 LoopX [(.int .i64 0)] w (fun vs1 w N1 => ∀ _ : Sg, S_plain_String_1_0 t0 t1 t34 (vs1.getD 0 undef) w N1 K)) (CallX Tryd.prog 84 #[t0, t1] w (pk K) fun t8 w =>
 K (.returned (.tuple #[])) w))
theorem S_plain_String_1_eq (t0 t1 : Value) (w : World) (K : Ending → World → Prop) : wpX Tryd.prog 46 [] [(7, [35])] (bodyOf Tryd.f83) (topQ Tryd.prog [] K) (startX [t0, t1]) [] w = S_plain_String_1 t0 t1 w K := by kernel_rfl
theorem S_plain_String_1_ok {t0 t1 : Value} {w : World} {K : Ending → World → Prop} (h : S_plain_String_1 t0 t1 w K) : Calls Tryd.prog 83 #[t0, t1] w K :=
  calls_of_wpX Tryd.func83 rfl rfl rfl rfl (Eq.mpr (S_plain_String_1_eq t0 t1 w K) h)

/- plain.Name$1 -/
def S_plain_Name_1 (t0 t1 : Value) (w : World) (K : Ending → World → Prop) : Prop :=
 DoX Tryd.prog (mBin .gtr 5 t1 (.int .u8 32)) w (pk K) fun t5 w =>
 GDo t5 true (fun E => E t1 w) w fun t7 w =>
 GDo t5 true (fun E => DoX Tryd.prog (mBin .leq 5 t7 (.int .u8 126)) w (pk K) E) w fun t8 w =>
 DoX Tryd.prog (mPick t5 t8 (.bool false)) w (pk K) fun t9 w =>
 GDo t9 true (fun E => E t1 w) w fun t11 w =>
 GDo t9 true (fun E => DoX Tryd.prog (mEq .neq 5 (.tmp 11) (.const (.int .u8 35)) t11 (.int .u8 35)) w (pk K) E) w fun t12 w =>
 DoX Tryd.prog (mPick t9 t12 (.bool false)) w (pk K) fun t13 w =>
 GDo t13 true (fun E => E t1 w) w fun t15 w =>
 GDo t13 true (fun E => CallX Tryd.prog 88 #[t15] w (pk K) E) w fun t16 w =>
 GDo t13 true (fun E => DoX Tryd.prog (mUn .not t16) w (pk K) E) w fun t17 w =>
 DoX Tryd.prog (mPick t13 t17 (.bool false)) w (pk K) fun t18 w =>
 IfX t18 (CallX Tryd.prog 84 #[t0, t1] w (pk K) fun t21 w =>
 K (.returned (.tuple #[])) w) (DoX Tryd.prog (mBuildS 64 1 #[(0, t1)]) w (pk K) fun t24 w =>
 DoX Tryd.prog (mConv 64 9 t24) w (pk K) fun t25 w =>
 CallX Tryd.prog 85 #[t25] w (pk K) fun t26 w =>
 DoX Tryd.prog (mBin .add 9 (.string ⟨#[35]⟩) t26) w (pk K) fun t27 w =>
 CallX Tryd.prog 89 #[t0, t27] w (pk K) fun t28 w =>
 K (.returned (.tuple #[])) w)
theorem S_plain_Name_1_eq (t0 t1 : Value) (w : World) (K : Ending → World → Prop) : wpX Tryd.prog 29 [] [] (bodyOf Tryd.f87) (topQ Tryd.prog [] K) (startX [t0, t1]) [] w = S_plain_Name_1 t0 t1 w K := by kernel_rfl
theorem S_plain_Name_1_ok {t0 t1 : Value} {w : World} {K : Ending → World → Prop} (h : S_plain_Name_1 t0 t1 w K) : Calls Tryd.prog 87 #[t0, t1] w K :=
  calls_of_wpX Tryd.func87 rfl rfl rfl rfl (Eq.mpr (S_plain_Name_1_eq t0 t1 w K) h)

/- octet.Hex -/
def S_octet_Hex_0 (t0 t3 t10 t11 : Value) (w : World) (N1 : List Value → World → Prop) (K : Ending → World → Prop) : Prop :=
 DoX Tryd.prog (mBin .lss 3 t11 t10) w (pk K) fun t12 w =>
 IfX t12 (QuietX w (fun C2 =>
 QDo Tryd.prog C2 (mIx 9 t0 t11) fun t17 =>
 QDo Tryd.prog C2 (mBin .shr 5 t17 (.int .u64 4)) fun t18 =>
 QDo Tryd.prog C2 (mIx 9 (.string ⟨#[48, 49, 50, 51, 52, 53, 54, 55, 56, 57, 65, 66, 67, 68, 69, 70]⟩) t18) fun t19 =>
 QDo Tryd.prog C2 (mIx 9 t0 t11) fun t22 =>
 QDo Tryd.prog C2 (mBin .and 5 t22 (.int .u8 15)) fun t23 =>
 QDo Tryd.prog C2 (mIx 9 (.string ⟨#[48, 49, 50, 51, 52, 53, 54, 55, 56, 57, 65, 66, 67, 68, 69, 70]⟩) t23) fun t24 =>
 ∀ w, C2 w →
 DoX Tryd.prog (mBuildS 64 2 #[(0, t19), (1, t24)]) w (pm1 (pm1 (pm1 (pm1 (pm1 (pk K)))))) fun t25 w =>
 DoX Tryd.prog (mB .append #[64, 64] 64 #[false, false] #[t3, t25]) w (pm1 (pm1 (pm1 (pm1 (pm1 (pk K)))))) fun t26 w =>
 DoX Tryd.prog (mBin .add 3 t11 (.int .i64 1)) w (pk K) fun t27 w =>
 N1 [t26, t27] w)) (DoX Tryd.prog (mConv 64 9 t3) w (pk K) fun t29 w =>
 K (.returned t29) w)
def S_octet_Hex (t0 : Value) (w : World) (K : Ending → World → Prop) : Prop :=
 DoX Tryd.prog (mB .len #[9] 3 #[false] #[t0]) w (pk K) fun t6 w =>
 DoX Tryd.prog (mBin .mul 3 (.int .i64 2) t6) w (pk K) fun t7 w =>
 DoX Tryd.prog (mMake 64 (.int .i64 0) t7) w (pk K) fun t8 w =>
 DoX Tryd.prog (mB .len #[9] 3 #[false] #[t0]) w (pk K) fun t10 w =>
 LoopX [t8, (.int .i64 0)] w (fun vs1 w N1 => ∀ _ : Sg, S_octet_Hex_0 t0 (vs1.getD 0 undef) t10 (vs1.getD 1 undef) w N1 K)
theorem S_octet_Hex_eq (t0 : Value) (w : World) (K : Ending → World → Prop) : wpX Tryd.prog 30 [] [(3, [3, 11])] (bodyOf Tryd.f85) (topQ Tryd.prog [.tmp 2] K) (startX [t0]) [] w = S_octet_Hex t0 w K := by kernel_rfl
theorem S_octet_Hex_ok {t0 : Value} {w : World} {K : Ending → World → Prop} (h : S_octet_Hex t0 w K) : Calls Tryd.prog 85 #[t0] w K :=
  calls_of_wpX Tryd.func85 rfl rfl rfl rfl (Eq.mpr (S_octet_Hex_eq t0 w K) h)

/- octet.Delim -/
def S_octet_Delim (t0 : Value) (w : World) (K : Ending → World → Prop) : Prop :=
 CallX Tryd.prog 86 #[(.string ⟨#[40, 41, 60, 62, 91, 93, 123, 125, 47, 37]⟩), t0] w (pk K) fun t4 w =>
 DoX Tryd.prog (mBin .geq 3 t4 (.int .i64 0)) w (pk K) fun t5 w =>
 K (.returned t5) w
theorem S_octet_Delim_eq (t0 : Value) (w : World) (K : Ending → World → Prop) : wpX Tryd.prog 6 [] [] (bodyOf Tryd.f88) (topQ Tryd.prog [.tmp 2] K) (startX [t0]) [] w = S_octet_Delim t0 w K := by kernel_rfl
theorem S_octet_Delim_ok {t0 : Value} {w : World} {K : Ending → World → Prop} (h : S_octet_Delim t0 w K) : Calls Tryd.prog 88 #[t0] w K :=
  calls_of_wpX Tryd.func88 rfl rfl rfl rfl (Eq.mpr (S_octet_Delim_eq t0 w K) h)

/- octet.Regular -/
def S_octet_Regular (t0 : Value) (w : World) (K : Ending → World → Prop) : Prop :=
 CallX Tryd.prog 134 #[t0] w (pk K) fun t4 w =>
 DoX Tryd.prog (mUn .not t4) w (pk K) fun t5 w =>
 GDo t5 true (fun E => E t0 w) w fun t7 w =>
 GDo t5 true (fun E => CallX Tryd.prog 88 #[t7] w (pk K) E) w fun t8 w =>
 GDo t5 true (fun E => DoX Tryd.prog (mUn .not t8) w (pk K) E) w fun t9 w =>
 DoX Tryd.prog (mPick t5 t9 (.bool false)) w (pk K) fun t10 w =>
 K (.returned t10) w
theorem S_octet_Regular_eq (t0 : Value) (w : World) (K : Ending → World → Prop) : wpX Tryd.prog 11 [] [] (bodyOf Tryd.f91) (topQ Tryd.prog [.tmp 2] K) (startX [t0]) [] w = S_octet_Regular t0 w K := by kernel_rfl
theorem S_octet_Regular_ok {t0 : Value} {w : World} {K : Ending → World → Prop} (h : S_octet_Regular t0 w K) : Calls Tryd.prog 91 #[t0] w K :=
  calls_of_wpX Tryd.func91 rfl rfl rfl rfl (Eq.mpr (S_octet_Regular_eq t0 w K) h)

/- octet.White -/
def S_octet_White (t0 : Value) (w : World) (K : Ending → World → Prop) : Prop :=
 CallX Tryd.prog 86 #[(.string ⟨#[0, 9, 10, 12, 13, 32]⟩), t0] w (pk K) fun t4 w =>
 DoX Tryd.prog (mBin .geq 3 t4 (.int .i64 0)) w (pk K) fun t5 w =>
 K (.returned t5) w
theorem S_octet_White_eq (t0 : Value) (w : World) (K : Ending → World → Prop) : wpX Tryd.prog 6 [] [] (bodyOf Tryd.f134) (topQ Tryd.prog [.tmp 2] K) (startX [t0]) [] w = S_octet_White t0 w K := by kernel_rfl
theorem S_octet_White_ok {t0 : Value} {w : World} {K : Ending → World → Prop} (h : S_octet_White t0 w K) : Calls Tryd.prog 134 #[t0] w K :=
  calls_of_wpX Tryd.func134 rfl rfl rfl rfl (Eq.mpr (S_octet_White_eq t0 w K) h)

end Go.Proofs.YtfnpfbgnhncgpaaDoor
