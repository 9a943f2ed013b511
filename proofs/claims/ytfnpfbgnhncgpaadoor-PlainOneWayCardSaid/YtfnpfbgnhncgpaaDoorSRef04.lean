/- Code in continuation form, by program (gen.py): 12 functions. -/
import Derived.Test.YtfnpfbgnhncgpaaDoorEngM
import Derived.Test.YtfnpfbgnhncgpaaDoorRows
namespace Go.Proofs.YtfnpfbgnhncgpaaDoor
set_option linter.unusedVariables false
set_option linter.unusedSimpArgs false
set_option linter.defProp false
set_option linter.unusedVariables false
set_option maxRecDepth 20000
open Eng

/- foliantref04.Int -/
def S_foliantref04_Int (t0 : Value) (w : World) (K : Ending → World → Prop) : Prop :=
 DoX Tryd.prog (mBin .lss 2 t0 (.int .i64 (-2147483647))) w (pk K) fun t5 w =>
 GDo t5 false (fun E => E t0 w) w fun t7 w =>
 GDo t5 false (fun E => DoX Tryd.prog (mBin .gtr 2 t7 (.int .i64 2147483647)) w (pk K) E) w fun t8 w =>
 DoX Tryd.prog (mPick t5 (.bool true) t8) w (pk K) fun t9 w =>
 IfX t9 (K (.returned (.tuple #[(.string ⟨#[]⟩), (.int .i64 2)])) w) (DoX Tryd.prog (mBin .lss 2 t0 (.int .i64 0)) w (pk K) fun t11 w =>
 IfX t11 (DoX Tryd.prog (mUn .neg t0) w (pk K) fun t13 w =>
 CallX Tryd.prog 81 #[t13] w (pk K) fun t14 w =>
 DoX Tryd.prog (mBin .add 9 (.string ⟨#[45]⟩) t14) w (pk K) fun t15 w =>
 K (.returned (.tuple #[t15, (.int .i64 0)])) w) (CallX Tryd.prog 81 #[t0] w (pk K) fun t17 w =>
 K (.returned (.tuple #[t17, (.int .i64 0)])) w))
theorem S_foliantref04_Int_eq (t0 : Value) (w : World) (K : Ending → World → Prop) : wpX Tryd.prog 18 [] [] (bodyOf Tryd.f38) (topQ Tryd.prog [.tmp 2, .tmp 3] K) (startX [t0]) [] w = S_foliantref04_Int t0 w K := by kernel_rfl
theorem S_foliantref04_Int_ok {t0 : Value} {w : World} {K : Ending → World → Prop} (h : S_foliantref04_Int t0 w K) : Calls Tryd.prog 38 #[t0] w K :=
  calls_of_wpX Tryd.func38 rfl rfl rfl rfl (Eq.mpr (S_foliantref04_Int_eq t0 w K) h)

/- foliantref04.Real -/
def S_foliantref04_Real (t0 : Value) (w : World) (K : Ending → World → Prop) : Prop :=
 DoX Tryd.prog (mBin .lss 2 t0 (.int .i64 (-1073741824))) w (pk K) fun t5 w =>
 GDo t5 false (fun E => E t0 w) w fun t7 w =>
 GDo t5 false (fun E => DoX Tryd.prog (mBin .gtr 2 t7 (.int .i64 1073741824)) w (pk K) E) w fun t8 w =>
 DoX Tryd.prog (mPick t5 (.bool true) t8) w (pk K) fun t9 w =>
 IfX t9 (K (.returned (.tuple #[(.string ⟨#[]⟩), (.int .i64 2)])) w) (CallX Tryd.prog 25 #[t0] w (pk K) fun t11 w =>
 K (.returned (.tuple #[t11, (.int .i64 0)])) w)
theorem S_foliantref04_Real_eq (t0 : Value) (w : World) (K : Ending → World → Prop) : wpX Tryd.prog 12 [] [] (bodyOf Tryd.f40) (topQ Tryd.prog [.tmp 2, .tmp 3] K) (startX [t0]) [] w = S_foliantref04_Real t0 w K := by kernel_rfl
theorem S_foliantref04_Real_ok {t0 : Value} {w : World} {K : Ending → World → Prop} (h : S_foliantref04_Real t0 w K) : Calls Tryd.prog 40 #[t0] w K :=
  calls_of_wpX Tryd.func40 rfl rfl rfl rfl (Eq.mpr (S_foliantref04_Real_eq t0 w K) h)

/- foliantref04.String -/
def S_foliantref04_String_2 (t4 t5 : Value) (w : World) (N1 : List Value → World → Prop) (K : Ending → World → Prop) : Prop :=
 DoX Tryd.prog (mBin .add 3 t5 (.int .i64 1)) w (pk K) fun t16 w =>
 N1 [t4, t16] w
def S_foliantref04_String_1 (t4 t6 : Value) (w : World) (J2 : List Value → World → Prop) (K : Ending → World → Prop) : Prop :=
 DoX Tryd.prog (mBuildS 64 1 #[(0, t6)]) w (pk K) fun t54 w =>
 DoX Tryd.prog (mB .append #[64, 64] 64 #[false, false] #[t4, t54]) w (pk K) fun t55 w =>
 J2 [t55] w
def S_foliantref04_String_0 (t0 t4 t5 : Value) (w : World) (N1 : List Value → World → Prop) (K : Ending → World → Prop) : Prop :=
 DoX Tryd.prog (mB .len #[9] 3 #[false] #[t0]) w (pk K) fun t13 w =>
 DoX Tryd.prog (mBin .lss 3 t5 t13) w (pk K) fun t14 w =>
 IfX t14 (JoinX (fun J2 =>
 DoX Tryd.prog (mIx 9 t0 t5) w (pk K) fun t19 w =>
 DoX Tryd.prog (mBin .lss 5 t19 (.int .u8 32)) w (pk K) fun t21 w =>
 GDo t21 false (fun E => E t19 w) w fun t23 w =>
 GDo t21 false (fun E => DoX Tryd.prog (mBin .gtr 5 t23 (.int .u8 126)) w (pk K) E) w fun t24 w =>
 DoX Tryd.prog (mPick t21 (.bool true) t24) w (pk K) fun t25 w =>
 IfX t25 (DoX Tryd.prog (mBin .quo 5 t19 (.int .u8 64)) w (pk K) fun t28 w =>
 DoX Tryd.prog (mBin .add 5 (.int .u8 48) t28) w (pk K) fun t29 w =>
 DoX Tryd.prog (mBin .quo 5 t19 (.int .u8 8)) w (pk K) fun t31 w =>
 DoX Tryd.prog (mBin .rem 5 t31 (.int .u8 8)) w (pk K) fun t32 w =>
 DoX Tryd.prog (mBin .add 5 (.int .u8 48) t32) w (pk K) fun t33 w =>
 DoX Tryd.prog (mBin .rem 5 t19 (.int .u8 8)) w (pk K) fun t35 w =>
 DoX Tryd.prog (mBin .add 5 (.int .u8 48) t35) w (pk K) fun t36 w =>
 DoX Tryd.prog (mBuildS 64 4 #[(0, (.int .u8 92)), (1, t29), (2, t33), (3, t36)]) w (pk K) fun t37 w =>
 DoX Tryd.prog (mB .append #[64, 64] 64 #[false, false] #[t4, t37]) w (pk K) fun t38 w =>
 J2 [t38] w) (JoinX (fun J3 =>
 DoX Tryd.prog (mEq .eql 5 (.tmp 39) (.const (.int .u8 40)) t19 (.int .u8 40)) w (pk K) fun t40 w =>
 GDo t40 false (fun E => E t19 w) w fun t42 w =>
 GDo t40 false (fun E => DoX Tryd.prog (mEq .eql 5 (.tmp 42) (.const (.int .u8 41)) t42 (.int .u8 41)) w (pk K) E) w fun t43 w =>
 DoX Tryd.prog (mPick t40 (.bool true) t43) w (pk K) fun t44 w =>
 GDo t44 false (fun E => E t19 w) w fun t46 w =>
 GDo t44 false (fun E => DoX Tryd.prog (mEq .eql 5 (.tmp 46) (.const (.int .u8 92)) t46 (.int .u8 92)) w (pk K) E) w fun t47 w =>
 DoX Tryd.prog (mPick t44 (.bool true) t47) w (pk K) fun t48 w =>
 IfX t48 (DoX Tryd.prog (mBuildS 64 1 #[(0, (.int .u8 92))]) w (pk K) fun t50 w =>
 DoX Tryd.prog (mB .append #[64, 64] 64 #[false, false] #[t4, t50]) w (pk K) fun t51 w =>
 J3 [t51] w) (J3 [t4] w)) (fun vs3 w => ∀ _ : Sg, S_foliantref04_String_1 (vs3.getD 0 undef) t19 w J2 K))) (fun vs2 w => ∀ _ : Sg, S_foliantref04_String_2 (vs2.getD 0 undef) t5 w N1 K)) (DoX Tryd.prog (mBuildS 64 1 #[(0, (.int .u8 41))]) w (pk K) fun t57 w =>
 DoX Tryd.prog (mB .append #[64, 64] 64 #[false, false] #[t4, t57]) w (pk K) fun t58 w =>
 DoX Tryd.prog (mConv 64 9 t58) w (pk K) fun t59 w =>
 K (.returned (.tuple #[t59, (.int .i64 0)])) w)
def S_foliantref04_String (t0 : Value) (w : World) (K : Ending → World → Prop) : Prop :=
 DoX Tryd.prog (mB .len #[9] 3 #[false] #[t0]) w (pk K) fun t8 w =>
 DoX Tryd.prog (mBin .gtr 3 t8 (.int .i64 32767)) w (pk K) fun t9 w =>
 IfX t9 (K (.returned (.tuple #[(.string ⟨#[]⟩), (.int .i64 5)])) w) (DoX Tryd.prog (mBuildS 64 1 #[(0, (.int .u8 40))]) w (pk K) fun t10 w =>
 LoopX [t10, (.int .i64 0)] w (fun vs1 w N1 => ∀ _ : Sg, S_foliantref04_String_0 t0 (vs1.getD 0 undef) (vs1.getD 1 undef) w N1 K))
theorem S_foliantref04_String_eq (t0 : Value) (w : World) (K : Ending → World → Prop) : wpX Tryd.prog 60 [(6, [4]), (12, [4])] [(5, [4, 5])] (bodyOf Tryd.f42) (topQ Tryd.prog [.tmp 2, .tmp 3] K) (startX [t0]) [] w = S_foliantref04_String t0 w K := by kernel_rfl
theorem S_foliantref04_String_ok {t0 : Value} {w : World} {K : Ending → World → Prop} (h : S_foliantref04_String t0 w K) : Calls Tryd.prog 42 #[t0] w K :=
  calls_of_wpX Tryd.func42 rfl rfl rfl rfl (Eq.mpr (S_foliantref04_String_eq t0 w K) h)

/- foliantref04.Hex -/
def S_foliantref04_Hex (t0 : Value) (w : World) (K : Ending → World → Prop) : Prop :=
 DoX Tryd.prog (mB .len #[9] 3 #[false] #[t0]) w (pk K) fun t5 w =>
 DoX Tryd.prog (mBin .gtr 3 t5 (.int .i64 32767)) w (pk K) fun t6 w =>
 IfX t6 (K (.returned (.tuple #[(.string ⟨#[]⟩), (.int .i64 5)])) w) (CallX Tryd.prog 60 #[t0] w (pk K) fun t8 w =>
 DoX Tryd.prog (mBin .add 9 (.string ⟨#[60]⟩) t8) w (pk K) fun t9 w =>
 DoX Tryd.prog (mBin .add 9 t9 (.string ⟨#[62]⟩)) w (pk K) fun t10 w =>
 K (.returned (.tuple #[t10, (.int .i64 0)])) w)
theorem S_foliantref04_Hex_eq (t0 : Value) (w : World) (K : Ending → World → Prop) : wpX Tryd.prog 11 [] [] (bodyOf Tryd.f44) (topQ Tryd.prog [.tmp 2, .tmp 3] K) (startX [t0]) [] w = S_foliantref04_Hex t0 w K := by kernel_rfl
theorem S_foliantref04_Hex_ok {t0 : Value} {w : World} {K : Ending → World → Prop} (h : S_foliantref04_Hex t0 w K) : Calls Tryd.prog 44 #[t0] w K :=
  calls_of_wpX Tryd.func44 rfl rfl rfl rfl (Eq.mpr (S_foliantref04_Hex_eq t0 w K) h)

/- foliantref04.Name -/
def S_foliantref04_Name_1 (t4 t5 : Value) (w : World) (N1 : List Value → World → Prop) (K : Ending → World → Prop) : Prop :=
 DoX Tryd.prog (mBin .add 3 t5 (.int .i64 1)) w (pk K) fun t15 w =>
 N1 [t4, t15] w
def S_foliantref04_Name_0 (t0 t4 t5 : Value) (w : World) (N1 : List Value → World → Prop) (K : Ending → World → Prop) : Prop :=
 DoX Tryd.prog (mB .len #[9] 3 #[false] #[t0]) w (pk K) fun t12 w =>
 DoX Tryd.prog (mBin .lss 3 t5 t12) w (pk K) fun t13 w =>
 IfX t13 (JoinX (fun J2 =>
 DoX Tryd.prog (mIx 9 t0 t5) w (pk K) fun t18 w =>
 DoX Tryd.prog (mEq .eql 5 (.tmp 19) (.const (.int .u8 0)) t18 (.int .u8 0)) w (pk K) fun t20 w =>
 IfX t20 (K (.returned (.tuple #[(.string ⟨#[]⟩), (.int .i64 3)])) w) (DoX Tryd.prog (mBin .lss 5 t18 (.int .u8 33)) w (pk K) fun t22 w =>
 GDo t22 false (fun E => E t18 w) w fun t24 w =>
 GDo t22 false (fun E => DoX Tryd.prog (mBin .gtr 5 t24 (.int .u8 126)) w (pk K) E) w fun t25 w =>
 DoX Tryd.prog (mPick t22 (.bool true) t25) w (pk K) fun t26 w =>
 GDo t26 false (fun E => E t18 w) w fun t28 w =>
 GDo t26 false (fun E => DoX Tryd.prog (mEq .eql 5 (.tmp 28) (.const (.int .u8 35)) t28 (.int .u8 35)) w (pk K) E) w fun t29 w =>
 DoX Tryd.prog (mPick t26 (.bool true) t29) w (pk K) fun t30 w =>
 GDo t30 false (fun E => E t18 w) w fun t32 w =>
 GDo t30 false (fun E => CallX Tryd.prog 90 #[t32] w (pk K) E) w fun t33 w =>
 DoX Tryd.prog (mPick t30 (.bool true) t33) w (pk K) fun t34 w =>
 IfX t34 (DoX Tryd.prog (mBin .add 3 t5 (.int .i64 1)) w (pk K) fun t39 w =>
 DoX Tryd.prog (mSlice 9 t0 (some t5) (some t39) none) w (pk K) fun t40 w =>
 CallX Tryd.prog 60 #[t40] w (pk K) fun t41 w =>
 DoX Tryd.prog (mBin .add 9 (.string ⟨#[35]⟩) t41) w (pk K) fun t42 w =>
 DoX Tryd.prog (mBin .add 9 t4 t42) w (pk K) fun t43 w =>
 J2 [t43] w) (DoX Tryd.prog (mBin .add 3 t5 (.int .i64 1)) w (pk K) fun t48 w =>
 DoX Tryd.prog (mSlice 9 t0 (some t5) (some t48) none) w (pk K) fun t49 w =>
 DoX Tryd.prog (mBin .add 9 t4 t49) w (pk K) fun t50 w =>
 J2 [t50] w))) (fun vs2 w => ∀ _ : Sg, S_foliantref04_Name_1 (vs2.getD 0 undef) t5 w N1 K)) (K (.returned (.tuple #[t4, (.int .i64 0)])) w)
def S_foliantref04_Name (t0 : Value) (w : World) (K : Ending → World → Prop) : Prop :=
 DoX Tryd.prog (mB .len #[9] 3 #[false] #[t0]) w (pk K) fun t8 w =>
 DoX Tryd.prog (mBin .gtr 3 t8 (.int .i64 127)) w (pk K) fun t9 w =>
 IfX t9 (K (.returned (.tuple #[(.string ⟨#[]⟩), (.int .i64 5)])) w) (LoopX [(.string ⟨#[47]⟩), (.int .i64 0)] w (fun vs1 w N1 => ∀ _ : Sg, S_foliantref04_Name_0 t0 (vs1.getD 0 undef) (vs1.getD 1 undef) w N1 K))
theorem S_foliantref04_Name_eq (t0 : Value) (w : World) (K : Ending → World → Prop) : wpX Tryd.prog 52 [(6, [4])] [(5, [4, 5])] (bodyOf Tryd.f46) (topQ Tryd.prog [.tmp 2, .tmp 3] K) (startX [t0]) [] w = S_foliantref04_Name t0 w K := by kernel_rfl
theorem S_foliantref04_Name_ok {t0 : Value} {w : World} {K : Ending → World → Prop} (h : S_foliantref04_Name t0 w K) : Calls Tryd.prog 46 #[t0] w K :=
  calls_of_wpX Tryd.func46 rfl rfl rfl rfl (Eq.mpr (S_foliantref04_Name_eq t0 w K) h)

/- foliantref04.Join -/
def S_foliantref04_Join_1 (t3 t5 t9 : Value) (w : World) (N1 : List Value → World → Prop) (K : Ending → World → Prop) : Prop :=
 DoX Tryd.prog (mBin .add 9 t3 t5) w (pk K) fun t39 w =>
 DoX Tryd.prog (mBin .add 3 t9 (.int .i64 1)) w (pk K) fun t40 w =>
 N1 [t39, t40] w
def S_foliantref04_Join_0 (t3 t7 t8 t9 : Value) (w : World) (N1 : List Value → World → Prop) (K : Ending → World → Prop) : Prop :=
 DoX Tryd.prog (mBin .lss 3 t9 t8) w (pk K) fun t10 w =>
 IfX t10 (DoX Tryd.prog (mIA 37 t7 t9) w (pk K) fun t11 w =>
 DoX Tryd.prog (mLoad 9 t11) w (pk K) fun t12 w =>
 JoinX (fun J2 =>
 DoX Tryd.prog (mEq .neq 9 (.tmp 13) (.const (.string ⟨#[]⟩)) t12 (.string ⟨#[]⟩)) w (pk K) fun t14 w =>
 GDo t14 true (fun E => E t3 w) w fun t16 w =>
 GDo t14 true (fun E => DoX Tryd.prog (mEq .neq 9 (.tmp 16) (.const (.string ⟨#[]⟩)) t16 (.string ⟨#[]⟩)) w (pk K) E) w fun t17 w =>
 DoX Tryd.prog (mPick t14 t17 (.bool false)) w (pk K) fun t18 w =>
 GDo t18 true (fun E => E t12 w) w fun t20 w =>
 GDo t18 true (fun E => DoX Tryd.prog (mIx 9 t20 (.int .i64 0)) w (pk K) E) w fun t21 w =>
 GDo t18 true (fun E => CallX Tryd.prog 93 #[t21] w (pk K) E) w fun t22 w =>
 DoX Tryd.prog (mPick t18 t22 (.bool false)) w (pk K) fun t23 w =>
 IfX t23 (DoX Tryd.prog (mB .len #[9] 3 #[false] #[t3]) w (pk K) fun t26 w =>
 DoX Tryd.prog (mBin .sub 3 t26 (.int .i64 1)) w (pk K) fun t27 w =>
 DoX Tryd.prog (mIx 9 t3 t27) w (pk K) fun t28 w =>
 DoX Tryd.prog (mEq .eql 5 (.tmp 29) (.const (.int .u8 47)) t28 (.int .u8 47)) w (pk K) fun t30 w =>
 GDo t30 false (fun E => E t28 w) w fun t32 w =>
 GDo t30 false (fun E => CallX Tryd.prog 93 #[t32] w (pk K) E) w fun t33 w =>
 DoX Tryd.prog (mPick t30 (.bool true) t33) w (pk K) fun t34 w =>
 IfX t34 (DoX Tryd.prog (mBin .add 9 t3 (.string ⟨#[32]⟩)) w (pk K) fun t36 w =>
 J2 [t36] w) (J2 [t3] w)) (J2 [t3] w)) (fun vs2 w => ∀ _ : Sg, S_foliantref04_Join_1 (vs2.getD 0 undef) t12 t9 w N1 K)) (K (.returned t3) w)
def S_foliantref04_Join (t0 : Value) (w : World) (K : Ending → World → Prop) : Prop :=
 DoX Tryd.prog (mB .len #[37] 3 #[false] #[t0]) w (pk K) fun t8 w =>
 LoopX [(.string ⟨#[]⟩), (.int .i64 0)] w (fun vs1 w N1 => ∀ _ : Sg, S_foliantref04_Join_0 (vs1.getD 0 undef) t0 t8 (vs1.getD 1 undef) w N1 K)
theorem S_foliantref04_Join_eq (t0 : Value) (w : World) (K : Ending → World → Prop) : wpX Tryd.prog 42 [(9, [3])] [(3, [3, 9])] (bodyOf Tryd.f48) (topQ Tryd.prog [.tmp 2] K) (startX [t0]) [] w = S_foliantref04_Join t0 w K := by kernel_rfl
theorem S_foliantref04_Join_ok {t0 : Value} {w : World} {K : Ending → World → Prop} (h : S_foliantref04_Join t0 w K) : Calls Tryd.prog 48 #[t0] w K :=
  calls_of_wpX Tryd.func48 rfl rfl rfl rfl (Eq.mpr (S_foliantref04_Join_eq t0 w K) h)

/- foliantref04.Pad -/
def S_foliantref04_Pad_0 (t1 t5 : Value) (w : World) (N1 : List Value → World → Prop) (K : Ending → World → Prop) : Prop :=
 DoX Tryd.prog (mB .len #[9] 3 #[false] #[t5]) w (pk K) fun t23 w =>
 DoX Tryd.prog (mBin .lss 3 t23 t1) w (pk K) fun t25 w =>
 IfX t25 (DoX Tryd.prog (mBin .add 9 (.string ⟨#[48]⟩) t5) w (pk K) fun t27 w =>
 N1 [t27] w) (K (.returned t5) w)
def S_foliantref04_Pad (t0 t1 : Value) (w : World) (K : Ending → World → Prop) : Prop :=
 DoX Tryd.prog (mBin .lss 3 t0 (.int .i64 0)) w (pk K) fun t7 w =>
 GDo t7 false (fun E => E t1 w) w fun t9 w =>
 GDo t7 false (fun E => DoX Tryd.prog (mBin .lss 3 t9 (.int .i64 1)) w (pk K) E) w fun t10 w =>
 DoX Tryd.prog (mPick t7 (.bool true) t10) w (pk K) fun t11 w =>
 GDo t11 false (fun E => E t1 w) w fun t13 w =>
 GDo t11 false (fun E => DoX Tryd.prog (mBin .gtr 3 t13 (.int .i64 20)) w (pk K) E) w fun t14 w =>
 DoX Tryd.prog (mPick t11 (.bool true) t14) w (pk K) fun t15 w =>
 IfX t15 (K (.returned (.string ⟨#[]⟩)) w) (CallX Tryd.prog 81 #[t0] w (pk K) fun t17 w =>
 DoX Tryd.prog (mB .len #[9] 3 #[false] #[t17]) w (pk K) fun t19 w =>
 DoX Tryd.prog (mBin .gtr 3 t19 t1) w (pk K) fun t21 w =>
 IfX t21 (K (.returned (.string ⟨#[]⟩)) w) (LoopX [t17] w (fun vs1 w N1 => ∀ _ : Sg, S_foliantref04_Pad_0 t1 (vs1.getD 0 undef) w N1 K)))
theorem S_foliantref04_Pad_eq (t0 t1 : Value) (w : World) (K : Ending → World → Prop) : wpX Tryd.prog 29 [] [(6, [5])] (bodyOf Tryd.f50) (topQ Tryd.prog [.tmp 4] K) (startX [t0, t1]) [] w = S_foliantref04_Pad t0 t1 w K := by kernel_rfl
theorem S_foliantref04_Pad_ok {t0 t1 : Value} {w : World} {K : Ending → World → Prop} (h : S_foliantref04_Pad t0 t1 w K) : Calls Tryd.prog 50 #[t0, t1] w K :=
  calls_of_wpX Tryd.func50 rfl rfl rfl rfl (Eq.mpr (S_foliantref04_Pad_eq t0 t1 w K) h)

/- foliantref04.digits -/
def S_foliantref04_digits (t0 : Value) (w : World) (K : Ending → World → Prop) : Prop :=
 DoX Tryd.prog (mBin .rem 2 t0 (.int .i64 10)) w (pk K) fun t5 w =>
 DoX Tryd.prog (mBin .rem 2 t0 (.int .i64 10)) w (pk K) fun t7 w =>
 DoX Tryd.prog (mBin .add 2 t7 (.int .i64 1)) w (pk K) fun t8 w =>
 DoX Tryd.prog (mSlice 9 (.string ⟨#[48, 49, 50, 51, 52, 53, 54, 55, 56, 57]⟩) (some t5) (some t8) none) w (pk K) fun t9 w =>
 DoX Tryd.prog (mBin .lss 2 t0 (.int .i64 10)) w (pk K) fun t11 w =>
 IfX t11 (K (.returned t9) w) (DoX Tryd.prog (mBin .quo 2 t0 (.int .i64 10)) w (pk K) fun t14 w =>
 CallX Tryd.prog 81 #[t14] w (pk K) fun t15 w =>
 DoX Tryd.prog (mBin .add 9 t15 t9) w (pk K) fun t17 w =>
 K (.returned t17) w)
theorem S_foliantref04_digits_eq (t0 : Value) (w : World) (K : Ending → World → Prop) : wpX Tryd.prog 18 [] [] (bodyOf Tryd.f81) (topQ Tryd.prog [.tmp 2] K) (startX [t0]) [] w = S_foliantref04_digits t0 w K := by kernel_rfl
theorem S_foliantref04_digits_ok {t0 : Value} {w : World} {K : Ending → World → Prop} (h : S_foliantref04_digits t0 w K) : Calls Tryd.prog 81 #[t0] w K :=
  calls_of_wpX Tryd.func81 rfl rfl rfl rfl (Eq.mpr (S_foliantref04_digits_eq t0 w K) h)

/- foliantref01.Hex -/
def S_foliantref01_Hex_0 (t0 t3 t4 t5 : Value) (w : World) (N1 : List Value → World → Prop) (K : Ending → World → Prop) : Prop :=
 DoX Tryd.prog (mB .len #[9] 3 #[false] #[t0]) w (pk K) fun t8 w =>
 DoX Tryd.prog (mBin .lss 3 t5 t8) w (pk K) fun t9 w =>
 IfX t9 (QuietX w (fun C2 =>
 QDo Tryd.prog C2 (mIx 9 t0 t5) fun t16 =>
 QDo Tryd.prog C2 (mBin .quo 5 t16 (.int .u8 16)) fun t17 =>
 QDo Tryd.prog C2 (mIx 9 t3 t17) fun t18 =>
 QDo Tryd.prog C2 (mIx 9 t0 t5) fun t22 =>
 QDo Tryd.prog C2 (mBin .rem 5 t22 (.int .u8 16)) fun t23 =>
 QDo Tryd.prog C2 (mIx 9 t3 t23) fun t24 =>
 ∀ w, C2 w →
 DoX Tryd.prog (mBuildS 64 2 #[(0, t18), (1, t24)]) w (pm1 (pm1 (pm1 (pm1 (pm1 (pm1 (pm1 (pk K)))))))) fun t25 w =>
 DoX Tryd.prog (mB .append #[64, 64] 64 #[false, false] #[t4, t25]) w (pm1 (pm1 (pm1 (pm1 (pm1 (pm1 (pm1 (pk K)))))))) fun t26 w =>
 DoX Tryd.prog (mBin .add 3 t5 (.int .i64 1)) w (pk K) fun t11 w =>
 N1 [t26, t11] w)) (DoX Tryd.prog (mConv 64 9 t4) w (pk K) fun t28 w =>
 K (.returned t28) w)
def S_foliantref01_Hex (t0 : Value) (w : World) (K : Ending → World → Prop) : Prop :=
 LoopX [(.slice none 0 0), (.int .i64 0)] w (fun vs1 w N1 => ∀ _ : Sg, S_foliantref01_Hex_0 t0 (.string ⟨#[48, 49, 50, 51, 52, 53, 54, 55, 56, 57, 65, 66, 67, 68, 69, 70]⟩) (vs1.getD 0 undef) (vs1.getD 1 undef) w N1 K)
theorem S_foliantref01_Hex_eq (t0 : Value) (w : World) (K : Ending → World → Prop) : wpX Tryd.prog 29 [] [(4, [4, 5])] (bodyOf Tryd.f60) (topQ Tryd.prog [.tmp 2] K) (startX [t0]) [] w = S_foliantref01_Hex t0 w K := by kernel_rfl
theorem S_foliantref01_Hex_ok {t0 : Value} {w : World} {K : Ending → World → Prop} (h : S_foliantref01_Hex t0 w K) : Calls Tryd.prog 60 #[t0] w K :=
  calls_of_wpX Tryd.func60 rfl rfl rfl rfl (Eq.mpr (S_foliantref01_Hex_eq t0 w K) h)

/- foliantref01.Delim -/
def S_foliantref01_Delim (t0 : Value) (w : World) (K : Ending → World → Prop) : Prop :=
 DoX Tryd.prog (mEq .eql 5 (.tmp 3) (.const (.int .u8 40)) t0 (.int .u8 40)) w (pk K) fun t4 w =>
 GDo t4 false (fun E => E t0 w) w fun t6 w =>
 GDo t4 false (fun E => DoX Tryd.prog (mEq .eql 5 (.tmp 6) (.const (.int .u8 41)) t6 (.int .u8 41)) w (pk K) E) w fun t7 w =>
 DoX Tryd.prog (mPick t4 (.bool true) t7) w (pk K) fun t8 w =>
 GDo t8 false (fun E => E t0 w) w fun t10 w =>
 GDo t8 false (fun E => DoX Tryd.prog (mEq .eql 5 (.tmp 10) (.const (.int .u8 60)) t10 (.int .u8 60)) w (pk K) E) w fun t11 w =>
 DoX Tryd.prog (mPick t8 (.bool true) t11) w (pk K) fun t12 w =>
 GDo t12 false (fun E => E t0 w) w fun t14 w =>
 GDo t12 false (fun E => DoX Tryd.prog (mEq .eql 5 (.tmp 14) (.const (.int .u8 62)) t14 (.int .u8 62)) w (pk K) E) w fun t15 w =>
 DoX Tryd.prog (mPick t12 (.bool true) t15) w (pk K) fun t16 w =>
 GDo t16 false (fun E => E t0 w) w fun t18 w =>
 GDo t16 false (fun E => DoX Tryd.prog (mEq .eql 5 (.tmp 18) (.const (.int .u8 91)) t18 (.int .u8 91)) w (pk K) E) w fun t19 w =>
 DoX Tryd.prog (mPick t16 (.bool true) t19) w (pk K) fun t20 w =>
 GDo t20 false (fun E => E t0 w) w fun t22 w =>
 GDo t20 false (fun E => DoX Tryd.prog (mEq .eql 5 (.tmp 22) (.const (.int .u8 93)) t22 (.int .u8 93)) w (pk K) E) w fun t23 w =>
 DoX Tryd.prog (mPick t20 (.bool true) t23) w (pk K) fun t24 w =>
 GDo t24 false (fun E => E t0 w) w fun t26 w =>
 GDo t24 false (fun E => DoX Tryd.prog (mEq .eql 5 (.tmp 26) (.const (.int .u8 123)) t26 (.int .u8 123)) w (pk K) E) w fun t27 w =>
 DoX Tryd.prog (mPick t24 (.bool true) t27) w (pk K) fun t28 w =>
 GDo t28 false (fun E => E t0 w) w fun t30 w =>
 GDo t28 false (fun E => DoX Tryd.prog (mEq .eql 5 (.tmp 30) (.const (.int .u8 125)) t30 (.int .u8 125)) w (pk K) E) w fun t31 w =>
 DoX Tryd.prog (mPick t28 (.bool true) t31) w (pk K) fun t32 w =>
 GDo t32 false (fun E => E t0 w) w fun t34 w =>
 GDo t32 false (fun E => DoX Tryd.prog (mEq .eql 5 (.tmp 34) (.const (.int .u8 47)) t34 (.int .u8 47)) w (pk K) E) w fun t35 w =>
 DoX Tryd.prog (mPick t32 (.bool true) t35) w (pk K) fun t36 w =>
 GDo t36 false (fun E => E t0 w) w fun t38 w =>
 GDo t36 false (fun E => DoX Tryd.prog (mEq .eql 5 (.tmp 38) (.const (.int .u8 37)) t38 (.int .u8 37)) w (pk K) E) w fun t39 w =>
 DoX Tryd.prog (mPick t36 (.bool true) t39) w (pk K) fun t40 w =>
 K (.returned t40) w
theorem S_foliantref01_Delim_eq (t0 : Value) (w : World) (K : Ending → World → Prop) : wpX Tryd.prog 41 [] [] (bodyOf Tryd.f90) (topQ Tryd.prog [.tmp 2] K) (startX [t0]) [] w = S_foliantref01_Delim t0 w K := by kernel_rfl
theorem S_foliantref01_Delim_ok {t0 : Value} {w : World} {K : Ending → World → Prop} (h : S_foliantref01_Delim t0 w K) : Calls Tryd.prog 90 #[t0] w K :=
  calls_of_wpX Tryd.func90 rfl rfl rfl rfl (Eq.mpr (S_foliantref01_Delim_eq t0 w K) h)

/- foliantref01.Regular -/
def S_foliantref01_Regular (t0 : Value) (w : World) (K : Ending → World → Prop) : Prop :=
 CallX Tryd.prog 122 #[t0] w (pk K) fun t4 w =>
 DoX Tryd.prog (mUn .not t4) w (pk K) fun t5 w =>
 GDo t5 true (fun E => E t0 w) w fun t7 w =>
 GDo t5 true (fun E => CallX Tryd.prog 90 #[t7] w (pk K) E) w fun t8 w =>
 GDo t5 true (fun E => DoX Tryd.prog (mUn .not t8) w (pk K) E) w fun t9 w =>
 DoX Tryd.prog (mPick t5 t9 (.bool false)) w (pk K) fun t10 w =>
 K (.returned t10) w
theorem S_foliantref01_Regular_eq (t0 : Value) (w : World) (K : Ending → World → Prop) : wpX Tryd.prog 11 [] [] (bodyOf Tryd.f93) (topQ Tryd.prog [.tmp 2] K) (startX [t0]) [] w = S_foliantref01_Regular t0 w K := by kernel_rfl
theorem S_foliantref01_Regular_ok {t0 : Value} {w : World} {K : Ending → World → Prop} (h : S_foliantref01_Regular t0 w K) : Calls Tryd.prog 93 #[t0] w K :=
  calls_of_wpX Tryd.func93 rfl rfl rfl rfl (Eq.mpr (S_foliantref01_Regular_eq t0 w K) h)

/- foliantref01.White -/
def S_foliantref01_White (t0 : Value) (w : World) (K : Ending → World → Prop) : Prop :=
 DoX Tryd.prog (mEq .eql 5 (.tmp 3) (.const (.int .u8 0)) t0 (.int .u8 0)) w (pk K) fun t4 w =>
 GDo t4 false (fun E => E t0 w) w fun t6 w =>
 GDo t4 false (fun E => DoX Tryd.prog (mEq .eql 5 (.tmp 6) (.const (.int .u8 9)) t6 (.int .u8 9)) w (pk K) E) w fun t7 w =>
 DoX Tryd.prog (mPick t4 (.bool true) t7) w (pk K) fun t8 w =>
 GDo t8 false (fun E => E t0 w) w fun t10 w =>
 GDo t8 false (fun E => DoX Tryd.prog (mEq .eql 5 (.tmp 10) (.const (.int .u8 10)) t10 (.int .u8 10)) w (pk K) E) w fun t11 w =>
 DoX Tryd.prog (mPick t8 (.bool true) t11) w (pk K) fun t12 w =>
 GDo t12 false (fun E => E t0 w) w fun t14 w =>
 GDo t12 false (fun E => DoX Tryd.prog (mEq .eql 5 (.tmp 14) (.const (.int .u8 12)) t14 (.int .u8 12)) w (pk K) E) w fun t15 w =>
 DoX Tryd.prog (mPick t12 (.bool true) t15) w (pk K) fun t16 w =>
 GDo t16 false (fun E => E t0 w) w fun t18 w =>
 GDo t16 false (fun E => DoX Tryd.prog (mEq .eql 5 (.tmp 18) (.const (.int .u8 13)) t18 (.int .u8 13)) w (pk K) E) w fun t19 w =>
 DoX Tryd.prog (mPick t16 (.bool true) t19) w (pk K) fun t20 w =>
 GDo t20 false (fun E => E t0 w) w fun t22 w =>
 GDo t20 false (fun E => DoX Tryd.prog (mEq .eql 5 (.tmp 22) (.const (.int .u8 32)) t22 (.int .u8 32)) w (pk K) E) w fun t23 w =>
 DoX Tryd.prog (mPick t20 (.bool true) t23) w (pk K) fun t24 w =>
 K (.returned t24) w
theorem S_foliantref01_White_eq (t0 : Value) (w : World) (K : Ending → World → Prop) : wpX Tryd.prog 25 [] [] (bodyOf Tryd.f122) (topQ Tryd.prog [.tmp 2] K) (startX [t0]) [] w = S_foliantref01_White t0 w K := by kernel_rfl
theorem S_foliantref01_White_ok {t0 : Value} {w : World} {K : Ending → World → Prop} (h : S_foliantref01_White t0 w K) : Calls Tryd.prog 122 #[t0] w K :=
  calls_of_wpX Tryd.func122 rfl rfl rfl rfl (Eq.mpr (S_foliantref01_White_eq t0 w K) h)

end Go.Proofs.YtfnpfbgnhncgpaaDoor
