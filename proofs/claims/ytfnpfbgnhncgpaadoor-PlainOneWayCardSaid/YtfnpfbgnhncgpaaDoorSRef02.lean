/- Code in continuation form, by program (gen.py): 14 functions. -/
import Derived.Test.YtfnpfbgnhncgpaaDoorEngM
import Derived.Test.YtfnpfbgnhncgpaaDoorRows
namespace Go.Proofs.YtfnpfbgnhncgpaaDoor
set_option linter.unusedVariables false
set_option linter.unusedSimpArgs false
set_option linter.defProp false
set_option linter.unusedVariables false
set_option maxRecDepth 20000
open Eng

/- foliantref02.Within -/
def S_foliantref02_Within (t0 : Value) (w : World) (K : Ending → World → Prop) : Prop :=
 DoX Tryd.prog (mBin .geq 2 t0 (.int .i64 (-1073741824))) w (pk K) fun t4 w =>
 GDo t4 true (fun E => E t0 w) w fun t6 w =>
 GDo t4 true (fun E => DoX Tryd.prog (mBin .leq 2 t6 (.int .i64 1073741824)) w (pk K) E) w fun t7 w =>
 DoX Tryd.prog (mPick t4 t7 (.bool false)) w (pk K) fun t8 w =>
 K (.returned t8) w
theorem S_foliantref02_Within_eq (t0 : Value) (w : World) (K : Ending → World → Prop) : wpX Tryd.prog 9 [] [] (bodyOf Tryd.f72) (topQ Tryd.prog [.tmp 2] K) (startX [t0]) [] w = S_foliantref02_Within t0 w K := by kernel_rfl
theorem S_foliantref02_Within_ok {t0 : Value} {w : World} {K : Ending → World → Prop} (h : S_foliantref02_Within t0 w K) : Calls Tryd.prog 72 #[t0] w K :=
  calls_of_wpX Tryd.func72 rfl rfl rfl rfl (Eq.mpr (S_foliantref02_Within_eq t0 w K) h)

/- foliantref02.told -/
def S_foliantref02_told (t0 : Value) (w : World) (K : Ending → World → Prop) : Prop :=
 CallX Tryd.prog 72 #[t0] w (pk K) fun t5 w =>
 DoX Tryd.prog (mUn .not t5) w (pk K) fun t6 w =>
 IfX t6 (K (.returned (.tuple #[(.int .i64 0), (.int .i64 2)])) w) (K (.returned (.tuple #[t0, (.int .i64 0)])) w)
theorem S_foliantref02_told_eq (t0 : Value) (w : World) (K : Ending → World → Prop) : wpX Tryd.prog 8 [] [] (bodyOf Tryd.f79) (topQ Tryd.prog [.tmp 2, .tmp 3] K) (startX [t0]) [] w = S_foliantref02_told t0 w K := by kernel_rfl
theorem S_foliantref02_told_ok {t0 : Value} {w : World} {K : Ending → World → Prop} (h : S_foliantref02_told t0 w K) : Calls Tryd.prog 79 #[t0] w K :=
  calls_of_wpX Tryd.func79 rfl rfl rfl rfl (Eq.mpr (S_foliantref02_told_eq t0 w K) h)

/- foliantref02.nearest -/
def S_foliantref02_nearest_1 (t5 : Value) (w : World) (K : Ending → World → Prop) : Prop :=
 K (.returned t5) w
def S_foliantref02_nearest_0 (t1 t5 t6 : Value) (w : World) (K : Ending → World → Prop) : Prop :=
 JoinX (fun J2 =>
 DoX Tryd.prog (mBin .sub 2 t1 t6) w (pk K) fun t23 w =>
 DoX Tryd.prog (mBin .geq 2 t6 t23) w (pk K) fun t24 w =>
 IfX t24 (DoX Tryd.prog (mBin .add 2 t5 (.int .i64 1)) w (pk K) fun t26 w =>
 J2 [t26] w) (J2 [t5] w)) (fun vs2 w => ∀ _ : Sg, S_foliantref02_nearest_1 (vs2.getD 0 undef) w K)
def S_foliantref02_nearest (t0 t1 : Value) (w : World) (K : Ending → World → Prop) : Prop :=
 DoX Tryd.prog (mBin .quo 2 t0 t1) w (pk K) fun t9 w =>
 DoX Tryd.prog (mBin .rem 2 t0 t1) w (pk K) fun t12 w =>
 JoinX (fun J1 =>
 DoX Tryd.prog (mBin .lss 2 t12 (.int .i64 0)) w (pk K) fun t14 w =>
 IfX t14 (DoX Tryd.prog (mBin .sub 2 t9 (.int .i64 1)) w (pk K) fun t16 w =>
 DoX Tryd.prog (mBin .add 2 t12 t1) w (pk K) fun t19 w =>
 J1 [t16, t19] w) (J1 [t9, t12] w)) (fun vs1 w => ∀ _ : Sg, S_foliantref02_nearest_0 t1 (vs1.getD 0 undef) (vs1.getD 1 undef) w K)
theorem S_foliantref02_nearest_eq (t0 t1 : Value) (w : World) (K : Ending → World → Prop) : wpX Tryd.prog 28 [(6, [5, 6]), (8, [5])] [] (bodyOf Tryd.f74) (topQ Tryd.prog [.tmp 4] K) (startX [t0, t1]) [] w = S_foliantref02_nearest t0 t1 w K := by kernel_rfl
theorem S_foliantref02_nearest_ok {t0 t1 : Value} {w : World} {K : Ending → World → Prop} (h : S_foliantref02_nearest t0 t1 w K) : Calls Tryd.prog 74 #[t0, t1] w K :=
  calls_of_wpX Tryd.func74 rfl rfl rfl rfl (Eq.mpr (S_foliantref02_nearest_eq t0 t1 w K) h)

/- foliantref02.Near -/
def S_foliantref02_Near (t0 t1 : Value) (w : World) (K : Ending → World → Prop) : Prop :=
 DoX Tryd.prog (mBin .lss 2 t1 (.int .i64 1)) w (pk K) fun t7 w =>
 IfX t7 (K (.returned (.tuple #[(.int .i64 0), (.int .i64 1)])) w) (DoX Tryd.prog (mBin .lss 2 t0 (.int .i64 (-4611686018427387904))) w (pk K) fun t9 w =>
 GDo t9 false (fun E => E t0 w) w fun t11 w =>
 GDo t9 false (fun E => DoX Tryd.prog (mBin .gtr 2 t11 (.int .i64 4611686018427387904)) w (pk K) E) w fun t12 w =>
 DoX Tryd.prog (mPick t9 (.bool true) t12) w (pk K) fun t13 w =>
 IfX t13 (K (.returned (.tuple #[(.int .i64 0), (.int .i64 2)])) w) (CallX Tryd.prog 74 #[t0, t1] w (pk K) fun t16 w =>
 K (.returned (.tuple #[t16, (.int .i64 0)])) w))
theorem S_foliantref02_Near_eq (t0 t1 : Value) (w : World) (K : Ending → World → Prop) : wpX Tryd.prog 17 [] [] (bodyOf Tryd.f21) (topQ Tryd.prog [.tmp 4, .tmp 5] K) (startX [t0, t1]) [] w = S_foliantref02_Near t0 t1 w K := by kernel_rfl
theorem S_foliantref02_Near_ok {t0 t1 : Value} {w : World} {K : Ending → World → Prop} (h : S_foliantref02_Near t0 t1 w K) : Calls Tryd.prog 21 #[t0, t1] w K :=
  calls_of_wpX Tryd.func21 rfl rfl rfl rfl (Eq.mpr (S_foliantref02_Near_eq t0 t1 w K) h)

/- foliantref02.Whole -/
def S_foliantref02_Whole (t0 : Value) (w : World) (K : Ending → World → Prop) : Prop :=
 CallX Tryd.prog 74 #[t0, (.int .i64 10000)] w (pk K) fun t4 w =>
 K (.returned t4) w
theorem S_foliantref02_Whole_eq (t0 : Value) (w : World) (K : Ending → World → Prop) : wpX Tryd.prog 5 [] [] (bodyOf Tryd.f27) (topQ Tryd.prog [.tmp 2] K) (startX [t0]) [] w = S_foliantref02_Whole t0 w K := by kernel_rfl
theorem S_foliantref02_Whole_ok {t0 : Value} {w : World} {K : Ending → World → Prop} (h : S_foliantref02_Whole t0 w K) : Calls Tryd.prog 27 #[t0] w K :=
  calls_of_wpX Tryd.func27 rfl rfl rfl rfl (Eq.mpr (S_foliantref02_Whole_eq t0 w K) h)

/- foliantref02.Mul -/
def S_foliantref02_Mul (t0 t1 : Value) (w : World) (K : Ending → World → Prop) : Prop :=
 CallX Tryd.prog 72 #[t0] w (pk K) fun t7 w =>
 DoX Tryd.prog (mUn .not t7) w (pk K) fun t8 w =>
 GDo t8 false (fun E => E t1 w) w fun t10 w =>
 GDo t8 false (fun E => CallX Tryd.prog 72 #[t10] w (pk K) E) w fun t11 w =>
 GDo t8 false (fun E => DoX Tryd.prog (mUn .not t11) w (pk K) E) w fun t12 w =>
 DoX Tryd.prog (mPick t8 (.bool true) t12) w (pk K) fun t13 w =>
 IfX t13 (K (.returned (.tuple #[(.int .i64 0), (.int .i64 2)])) w) (DoX Tryd.prog (mBin .mul 2 t0 t1) w (pk K) fun t16 w =>
 CallX Tryd.prog 74 #[t16, (.int .i64 10000)] w (pk K) fun t17 w =>
 CallX Tryd.prog 79 #[t17] w (pk K) fun t18 w =>
 DoX Tryd.prog (mExt t18 0) w (pk K) fun t19 w =>
 DoX Tryd.prog (mExt t18 1) w (pk K) fun t20 w =>
 K (.returned (.tuple #[t19, t20])) w)
theorem S_foliantref02_Mul_eq (t0 t1 : Value) (w : World) (K : Ending → World → Prop) : wpX Tryd.prog 21 [] [] (bodyOf Tryd.f29) (topQ Tryd.prog [.tmp 4, .tmp 5] K) (startX [t0, t1]) [] w = S_foliantref02_Mul t0 t1 w K := by kernel_rfl
theorem S_foliantref02_Mul_ok {t0 t1 : Value} {w : World} {K : Ending → World → Prop} (h : S_foliantref02_Mul t0 t1 w K) : Calls Tryd.prog 29 #[t0, t1] w K :=
  calls_of_wpX Tryd.func29 rfl rfl rfl rfl (Eq.mpr (S_foliantref02_Mul_eq t0 t1 w K) h)

/- foliantref02.Div -/
def S_foliantref02_Div_0 (t0 t1 : Value) (w : World) (K : Ending → World → Prop) : Prop :=
 DoX Tryd.prog (mBin .mul 2 t0 (.int .i64 10000)) w (pk K) fun t23 w =>
 CallX Tryd.prog 74 #[t23, t1] w (pk K) fun t25 w =>
 CallX Tryd.prog 79 #[t25] w (pk K) fun t26 w =>
 DoX Tryd.prog (mExt t26 0) w (pk K) fun t27 w =>
 DoX Tryd.prog (mExt t26 1) w (pk K) fun t28 w =>
 K (.returned (.tuple #[t27, t28])) w
def S_foliantref02_Div (t0 t1 : Value) (w : World) (K : Ending → World → Prop) : Prop :=
 CallX Tryd.prog 72 #[t0] w (pk K) fun t7 w =>
 DoX Tryd.prog (mUn .not t7) w (pk K) fun t8 w =>
 GDo t8 false (fun E => E t1 w) w fun t10 w =>
 GDo t8 false (fun E => CallX Tryd.prog 72 #[t10] w (pk K) E) w fun t11 w =>
 GDo t8 false (fun E => DoX Tryd.prog (mUn .not t11) w (pk K) E) w fun t12 w =>
 DoX Tryd.prog (mPick t8 (.bool true) t12) w (pk K) fun t13 w =>
 IfX t13 (K (.returned (.tuple #[(.int .i64 0), (.int .i64 2)])) w) (DoX Tryd.prog (mEq .eql 2 (.tmp 14) (.const (.int .i64 0)) t1 (.int .i64 0)) w (pk K) fun t15 w =>
 IfX t15 (K (.returned (.tuple #[(.int .i64 0), (.int .i64 1)])) w) (JoinX (fun J1 =>
 DoX Tryd.prog (mBin .lss 2 t1 (.int .i64 0)) w (pk K) fun t17 w =>
 IfX t17 (DoX Tryd.prog (mUn .neg t0) w (pk K) fun t19 w =>
 DoX Tryd.prog (mUn .neg t1) w (pk K) fun t21 w =>
 J1 [t19, t21] w) (J1 [t0, t1] w)) (fun vs1 w => ∀ _ : Sg, S_foliantref02_Div_0 (vs1.getD 0 undef) (vs1.getD 1 undef) w K)))
theorem S_foliantref02_Div_eq (t0 t1 : Value) (w : World) (K : Ending → World → Prop) : wpX Tryd.prog 29 [(8, [0, 1])] [] (bodyOf Tryd.f31) (topQ Tryd.prog [.tmp 4, .tmp 5] K) (startX [t0, t1]) [] w = S_foliantref02_Div t0 t1 w K := by kernel_rfl
theorem S_foliantref02_Div_ok {t0 t1 : Value} {w : World} {K : Ending → World → Prop} (h : S_foliantref02_Div t0 t1 w K) : Calls Tryd.prog 31 #[t0, t1] w K :=
  calls_of_wpX Tryd.func31 rfl rfl rfl rfl (Eq.mpr (S_foliantref02_Div_eq t0 t1 w K) h)

/- foliantref02.Dot -/
def S_foliantref02_Dot_0 (t0 t4 t5 : Value) (w : World) (N1 : List Value → World → Prop) (K : Ending → World → Prop) : Prop :=
 DoX Tryd.prog (mBin .add 3 t5 (.int .i64 1)) w (pk K) fun t16 w =>
 DoX Tryd.prog (mB .len #[31] 3 #[false] #[t0]) w (pk K) fun t18 w =>
 DoX Tryd.prog (mBin .lss 3 t16 t18) w (pk K) fun t19 w =>
 IfX t19 (DoX Tryd.prog (mIA 31 t0 t5) w (pk K) fun t24 w =>
 DoX Tryd.prog (mLoad 2 t24) w (pk K) fun t25 w =>
 CallX Tryd.prog 72 #[t25] w (pk K) fun t26 w =>
 DoX Tryd.prog (mUn .not t26) w (pk K) fun t27 w =>
 GDo t27 false (fun E => E t0 w) w fun t29 w =>
 GDo t27 false (fun E => E t5 w) w fun t30 w =>
 GDo t27 false (fun E => DoX Tryd.prog (mBin .add 3 t30 (.int .i64 1)) w (pk K) E) w fun t31 w =>
 GDo t27 false (fun E => DoX Tryd.prog (mIA 31 t29 t31) w (pk K) E) w fun t32 w =>
 GDo t27 false (fun E => DoX Tryd.prog (mLoad 2 t32) w (pk K) E) w fun t33 w =>
 GDo t27 false (fun E => CallX Tryd.prog 72 #[t33] w (pk K) E) w fun t34 w =>
 GDo t27 false (fun E => DoX Tryd.prog (mUn .not t34) w (pk K) E) w fun t35 w =>
 DoX Tryd.prog (mPick t27 (.bool true) t35) w (pk K) fun t36 w =>
 IfX t36 (K (.returned (.tuple #[(.int .i64 0), (.int .i64 2)])) w) (QuietX w (fun C2 =>
 QDo Tryd.prog C2 (mIA 31 t0 t5) fun t40 =>
 QDo Tryd.prog C2 (mLoad 2 t40) fun t41 =>
 QDo Tryd.prog C2 (mBin .add 3 t5 (.int .i64 1)) fun t44 =>
 QDo Tryd.prog C2 (mIA 31 t0 t44) fun t45 =>
 QDo Tryd.prog C2 (mLoad 2 t45) fun t46 =>
 QDo Tryd.prog C2 (mBin .mul 2 t41 t46) fun t47 =>
 QDo Tryd.prog C2 (mBin .add 2 t4 t47) fun t48 =>
 ∀ w, C2 w →
 DoX Tryd.prog (mBin .add 3 t5 (.int .i64 2)) w (pk K) fun t21 w =>
 N1 [t48, t21] w))) (CallX Tryd.prog 74 #[t4, (.int .i64 10000)] w (pk K) fun t50 w =>
 CallX Tryd.prog 79 #[t50] w (pk K) fun t51 w =>
 DoX Tryd.prog (mExt t51 0) w (pk K) fun t52 w =>
 DoX Tryd.prog (mExt t51 1) w (pk K) fun t53 w =>
 K (.returned (.tuple #[t52, t53])) w)
def S_foliantref02_Dot (t0 : Value) (w : World) (K : Ending → World → Prop) : Prop :=
 DoX Tryd.prog (mB .len #[31] 3 #[false] #[t0]) w (pk K) fun t7 w =>
 DoX Tryd.prog (mBin .rem 3 t7 (.int .i64 2)) w (pk K) fun t8 w =>
 DoX Tryd.prog (mEq .eql 3 (.tmp 8) (.const (.int .i64 1)) t8 (.int .i64 1)) w (pk K) fun t9 w =>
 GDo t9 false (fun E => E t0 w) w fun t11 w =>
 GDo t9 false (fun E => DoX Tryd.prog (mB .len #[31] 3 #[false] #[t11]) w (pk K) E) w fun t12 w =>
 GDo t9 false (fun E => DoX Tryd.prog (mBin .gtr 3 t12 (.int .i64 8)) w (pk K) E) w fun t13 w =>
 DoX Tryd.prog (mPick t9 (.bool true) t13) w (pk K) fun t14 w =>
 IfX t14 (K (.returned (.tuple #[(.int .i64 0), (.int .i64 1)])) w) (LoopX [(.int .i64 0), (.int .i64 0)] w (fun vs1 w N1 => ∀ _ : Sg, S_foliantref02_Dot_0 t0 (vs1.getD 0 undef) (vs1.getD 1 undef) w N1 K))
theorem S_foliantref02_Dot_eq (t0 : Value) (w : World) (K : Ending → World → Prop) : wpX Tryd.prog 54 [] [(5, [4, 5])] (bodyOf Tryd.f33) (topQ Tryd.prog [.tmp 2, .tmp 3] K) (startX [t0]) [] w = S_foliantref02_Dot t0 w K := by kernel_rfl
theorem S_foliantref02_Dot_ok {t0 : Value} {w : World} {K : Ending → World → Prop} (h : S_foliantref02_Dot t0 w K) : Calls Tryd.prog 33 #[t0] w K :=
  calls_of_wpX Tryd.func33 rfl rfl rfl rfl (Eq.mpr (S_foliantref02_Dot_eq t0 w K) h)

/- foliantref02.Sum -/
def S_foliantref02_Sum_0 (t0 t4 t5 : Value) (w : World) (N1 : List Value → World → Prop) (K : Ending → World → Prop) : Prop :=
 DoX Tryd.prog (mB .len #[31] 3 #[false] #[t0]) w (pk K) fun t8 w =>
 DoX Tryd.prog (mBin .lss 3 t5 t8) w (pk K) fun t9 w =>
 IfX t9 (DoX Tryd.prog (mIA 31 t0 t5) w (pk K) fun t14 w =>
 DoX Tryd.prog (mLoad 2 t14) w (pk K) fun t15 w =>
 CallX Tryd.prog 72 #[t15] w (pk K) fun t16 w =>
 DoX Tryd.prog (mUn .not t16) w (pk K) fun t17 w =>
 IfX t17 (K (.returned (.tuple #[(.int .i64 0), (.int .i64 2)])) w) (DoX Tryd.prog (mIA 31 t0 t5) w (pk K) fun t21 w =>
 DoX Tryd.prog (mLoad 2 t21) w (pk K) fun t22 w =>
 DoX Tryd.prog (mBin .add 2 t4 t22) w (pk K) fun t23 w =>
 DoX Tryd.prog (mBin .add 3 t5 (.int .i64 1)) w (pk K) fun t11 w =>
 N1 [t23, t11] w)) (CallX Tryd.prog 79 #[t4] w (pk K) fun t25 w =>
 DoX Tryd.prog (mExt t25 0) w (pk K) fun t26 w =>
 DoX Tryd.prog (mExt t25 1) w (pk K) fun t27 w =>
 K (.returned (.tuple #[t26, t27])) w)
def S_foliantref02_Sum (t0 : Value) (w : World) (K : Ending → World → Prop) : Prop :=
 LoopX [(.int .i64 0), (.int .i64 0)] w (fun vs1 w N1 => ∀ _ : Sg, S_foliantref02_Sum_0 t0 (vs1.getD 0 undef) (vs1.getD 1 undef) w N1 K)
theorem S_foliantref02_Sum_eq (t0 : Value) (w : World) (K : Ending → World → Prop) : wpX Tryd.prog 28 [] [(3, [4, 5])] (bodyOf Tryd.f35) (topQ Tryd.prog [.tmp 2, .tmp 3] K) (startX [t0]) [] w = S_foliantref02_Sum t0 w K := by kernel_rfl
theorem S_foliantref02_Sum_ok {t0 : Value} {w : World} {K : Ending → World → Prop} (h : S_foliantref02_Sum t0 w K) : Calls Tryd.prog 35 #[t0] w K :=
  calls_of_wpX Tryd.func35 rfl rfl rfl rfl (Eq.mpr (S_foliantref02_Sum_eq t0 w K) h)

/- foliantref02.Root -/
def S_foliantref02_Root_1 (t4 t5 : Value) (w : World) (N1 : List Value → World → Prop) (K : Ending → World → Prop) : Prop :=
 DoX Tryd.prog (mBin .quo 2 t5 (.int .i64 2)) w (pk K) fun t14 w =>
 N1 [t4, t14] w
def S_foliantref02_Root_0 (t0 t4 t5 : Value) (w : World) (N1 : List Value → World → Prop) (K : Ending → World → Prop) : Prop :=
 DoX Tryd.prog (mBin .gtr 2 t5 (.int .i64 0)) w (pk K) fun t12 w =>
 IfX t12 (JoinX (fun J2 =>
 DoX Tryd.prog (mBin .add 2 t4 t5) w (pk K) fun t17 w =>
 DoX Tryd.prog (mBin .add 2 t4 t5) w (pk K) fun t20 w =>
 DoX Tryd.prog (mBin .mul 2 t17 t20) w (pk K) fun t21 w =>
 DoX Tryd.prog (mBin .mul 2 t0 (.int .i64 10000)) w (pk K) fun t23 w =>
 DoX Tryd.prog (mBin .leq 2 t21 t23) w (pk K) fun t24 w =>
 IfX t24 (DoX Tryd.prog (mBin .add 2 t4 t5) w (pk K) fun t27 w =>
 J2 [t27] w) (J2 [t4] w)) (fun vs2 w => ∀ _ : Sg, S_foliantref02_Root_1 (vs2.getD 0 undef) t5 w N1 K)) (K (.returned (.tuple #[t4, (.int .i64 0)])) w)
def S_foliantref02_Root (t0 : Value) (w : World) (K : Ending → World → Prop) : Prop :=
 CallX Tryd.prog 72 #[t0] w (pk K) fun t7 w =>
 DoX Tryd.prog (mUn .not t7) w (pk K) fun t8 w =>
 IfX t8 (K (.returned (.tuple #[(.int .i64 0), (.int .i64 2)])) w) (DoX Tryd.prog (mBin .lss 2 t0 (.int .i64 0)) w (pk K) fun t10 w =>
 IfX t10 (K (.returned (.tuple #[(.int .i64 0), (.int .i64 1)])) w) (LoopX [(.int .i64 0), (.int .i64 1073741824)] w (fun vs1 w N1 => ∀ _ : Sg, S_foliantref02_Root_0 t0 (vs1.getD 0 undef) (vs1.getD 1 undef) w N1 K)))
theorem S_foliantref02_Root_eq (t0 : Value) (w : World) (K : Ending → World → Prop) : wpX Tryd.prog 29 [(8, [4])] [(7, [4, 5])] (bodyOf Tryd.f23) (topQ Tryd.prog [.tmp 2, .tmp 3] K) (startX [t0]) [] w = S_foliantref02_Root t0 w K := by kernel_rfl
theorem S_foliantref02_Root_ok {t0 : Value} {w : World} {K : Ending → World → Prop} (h : S_foliantref02_Root t0 w K) : Calls Tryd.prog 23 #[t0] w K :=
  calls_of_wpX Tryd.func23 rfl rfl rfl rfl (Eq.mpr (S_foliantref02_Root_eq t0 w K) h)

/- foliantref02.digits -/
def S_foliantref02_digits_0 (t0 t1 t5 : Value) (w : World) (N1 : List Value → World → Prop) (K : Ending → World → Prop) : Prop :=
 DoX Tryd.prog (mBin .gtr 2 t0 (.int .i64 0)) w (pk K) fun t7 w =>
 GDo t7 false (fun E => E t5 w) w fun t9 w =>
 GDo t7 false (fun E => DoX Tryd.prog (mB .len #[9] 3 #[false] #[t9]) w (pk K) E) w fun t10 w =>
 GDo t7 false (fun E => E t1 w) w fun t11 w =>
 GDo t7 false (fun E => DoX Tryd.prog (mBin .lss 3 t10 t11) w (pk K) E) w fun t12 w =>
 DoX Tryd.prog (mPick t7 (.bool true) t12) w (pk K) fun t13 w =>
 IfX t13 (DoX Tryd.prog (mBin .rem 2 t0 (.int .i64 10)) w (pk K) fun t15 w =>
 DoX Tryd.prog (mBin .add 2 (.int .i64 48) t15) w (pk K) fun t16 w =>
 DoX Tryd.prog (mConv 2 5 t16) w (pk K) fun t17 w =>
 DoX Tryd.prog (mBuildS 64 1 #[(0, t17)]) w (pk K) fun t18 w =>
 DoX Tryd.prog (mConv 64 9 t18) w (pk K) fun t19 w =>
 DoX Tryd.prog (mBin .add 9 t19 t5) w (pk K) fun t21 w =>
 DoX Tryd.prog (mBin .quo 2 t0 (.int .i64 10)) w (pk K) fun t23 w =>
 N1 [t23, t21] w) (K (.returned t5) w)
def S_foliantref02_digits (t0 t1 : Value) (w : World) (K : Ending → World → Prop) : Prop :=
 LoopX [t0, (.string ⟨#[]⟩)] w (fun vs1 w N1 => ∀ _ : Sg, S_foliantref02_digits_0 (vs1.getD 0 undef) t1 (vs1.getD 1 undef) w N1 K)
theorem S_foliantref02_digits_eq (t0 t1 : Value) (w : World) (K : Ending → World → Prop) : wpX Tryd.prog 25 [] [(2, [0, 5])] (bodyOf Tryd.f77) (topQ Tryd.prog [.tmp 4] K) (startX [t0, t1]) [] w = S_foliantref02_digits t0 t1 w K := by kernel_rfl
theorem S_foliantref02_digits_ok {t0 t1 : Value} {w : World} {K : Ending → World → Prop} (h : S_foliantref02_digits t0 t1 w K) : Calls Tryd.prog 77 #[t0, t1] w K :=
  calls_of_wpX Tryd.func77 rfl rfl rfl rfl (Eq.mpr (S_foliantref02_digits_eq t0 t1 w K) h)

/- foliantref02.Text -/
def S_foliantref02_Text_1 (t0 t3 t4 : Value) (w : World) (N2 : List Value → World → Prop) (K : Ending → World → Prop) : Prop :=
 DoX Tryd.prog (mB .len #[9] 3 #[false] #[t4]) w (pk K) fun t16 w =>
 DoX Tryd.prog (mBin .gtr 3 t16 (.int .i64 1)) w (pk K) fun t17 w =>
 GDo t17 true (fun E => E t4 w) w fun t19 w =>
 GDo t17 true (fun E => E t4 w) w fun t20 w =>
 GDo t17 true (fun E => DoX Tryd.prog (mB .len #[9] 3 #[false] #[t20]) w (pk K) E) w fun t21 w =>
 GDo t17 true (fun E => DoX Tryd.prog (mBin .sub 3 t21 (.int .i64 1)) w (pk K) E) w fun t22 w =>
 GDo t17 true (fun E => DoX Tryd.prog (mIx 9 t19 t22) w (pk K) E) w fun t23 w =>
 GDo t17 true (fun E => DoX Tryd.prog (mEq .eql 5 (.tmp 23) (.const (.int .u8 48)) t23 (.int .u8 48)) w (pk K) E) w fun t24 w =>
 DoX Tryd.prog (mPick t17 t24 (.bool false)) w (pk K) fun t25 w =>
 IfX t25 (DoX Tryd.prog (mB .len #[9] 3 #[false] #[t4]) w (pk K) fun t28 w =>
 DoX Tryd.prog (mBin .sub 3 t28 (.int .i64 1)) w (pk K) fun t29 w =>
 DoX Tryd.prog (mSlice 9 t4 none (some t29) none) w (pk K) fun t30 w =>
 N2 [t30] w) (DoX Tryd.prog (mBin .quo 2 t0 (.int .i64 10000)) w (pk K) fun t33 w =>
 CallX Tryd.prog 77 #[t33, (.int .i64 1)] w (pk K) fun t34 w =>
 DoX Tryd.prog (mBin .add 9 t3 t34) w (pk K) fun t35 w =>
 DoX Tryd.prog (mBin .add 9 t35 (.string ⟨#[46]⟩)) w (pk K) fun t36 w =>
 DoX Tryd.prog (mBin .add 9 t36 t4) w (pk K) fun t38 w =>
 K (.returned t38) w)
def S_foliantref02_Text_0 (t0 t3 : Value) (w : World) (K : Ending → World → Prop) : Prop :=
 DoX Tryd.prog (mBin .rem 2 t0 (.int .i64 10000)) w (pk K) fun t13 w =>
 CallX Tryd.prog 77 #[t13, (.int .i64 4)] w (pk K) fun t14 w =>
 LoopX [t14] w (fun vs2 w N2 => ∀ _ : Sg, S_foliantref02_Text_1 t0 t3 (vs2.getD 0 undef) w N2 K)
def S_foliantref02_Text (t0 : Value) (w : World) (K : Ending → World → Prop) : Prop :=
 CallX Tryd.prog 72 #[t0] w (pk K) fun t6 w =>
 DoX Tryd.prog (mUn .not t6) w (pk K) fun t7 w =>
 IfX t7 (K (.returned (.string ⟨#[]⟩)) w) (JoinX (fun J1 =>
 DoX Tryd.prog (mBin .lss 2 t0 (.int .i64 0)) w (pk K) fun t9 w =>
 IfX t9 (DoX Tryd.prog (mUn .neg t0) w (pk K) fun t11 w =>
 J1 [t11, (.string ⟨#[45]⟩)] w) (J1 [t0, (.string ⟨#[]⟩)] w)) (fun vs1 w => ∀ _ : Sg, S_foliantref02_Text_0 (vs1.getD 0 undef) (vs1.getD 1 undef) w K))
theorem S_foliantref02_Text_eq (t0 : Value) (w : World) (K : Ending → World → Prop) : wpX Tryd.prog 39 [(7, [0, 3])] [(8, [4])] (bodyOf Tryd.f25) (topQ Tryd.prog [.tmp 2] K) (startX [t0]) [] w = S_foliantref02_Text t0 w K := by kernel_rfl
theorem S_foliantref02_Text_ok {t0 : Value} {w : World} {K : Ending → World → Prop} (h : S_foliantref02_Text t0 w K) : Calls Tryd.prog 25 #[t0] w K :=
  calls_of_wpX Tryd.func25 rfl rfl rfl rfl (Eq.mpr (S_foliantref02_Text_eq t0 w K) h)

/- foliantref02.form -/
def S_foliantref02_form_2 (t7 t8 t9 t10 : Value) (w : World) (N2 : List Value → World → Prop) (K : Ending → World → Prop) : Prop :=
 DoX Tryd.prog (mBin .add 3 t10 (.int .i64 1)) w (pk K) fun t36 w =>
 N2 [t7, t8, t9, t36] w
def S_foliantref02_form_1 (t0 t6 t7 t8 t9 t10 : Value) (w : World) (N2 : List Value → World → Prop) (K : Ending → World → Prop) : Prop :=
 DoX Tryd.prog (mB .len #[9] 3 #[false] #[t0]) w (pk K) fun t33 w =>
 DoX Tryd.prog (mBin .lss 3 t10 t33) w (pk K) fun t34 w =>
 IfX t34 (JoinX (fun J3 =>
 DoX Tryd.prog (mIx 9 t0 t10) w (pk K) fun t39 w =>
 DoX Tryd.prog (mEq .eql 5 (.tmp 39) (.const (.int .u8 46)) t39 (.int .u8 46)) w (pk K) fun t40 w =>
 GDo t40 true (fun E => E t9 w) w fun t42 w =>
 GDo t40 true (fun E => DoX Tryd.prog (mUn .not t42) w (pk K) E) w fun t43 w =>
 DoX Tryd.prog (mPick t40 t43 (.bool false)) w (pk K) fun t44 w =>
 IfX t44 (J3 [t7, t8, (.bool true)] w) (DoX Tryd.prog (mIx 9 t0 t10) w (pk K) fun t47 w =>
 DoX Tryd.prog (mBin .lss 5 t47 (.int .u8 48)) w (pk K) fun t48 w =>
 GDo t48 false (fun E => E t0 w) w fun t50 w =>
 GDo t48 false (fun E => E t10 w) w fun t51 w =>
 GDo t48 false (fun E => DoX Tryd.prog (mIx 9 t50 t51) w (pk K) E) w fun t52 w =>
 GDo t48 false (fun E => DoX Tryd.prog (mBin .gtr 5 t52 (.int .u8 57)) w (pk K) E) w fun t53 w =>
 DoX Tryd.prog (mPick t48 (.bool true) t53) w (pk K) fun t54 w =>
 IfX t54 (K (.returned (.tuple #[(.string ⟨#[]⟩), (.string ⟨#[]⟩), (.bool false), (.bool false)])) w) (IfX t9 (DoX Tryd.prog (mBin .add 3 t10 (.int .i64 1)) w (pk K) fun t60 w =>
 DoX Tryd.prog (mSlice 9 t0 (some t10) (some t60) none) w (pk K) fun t61 w =>
 DoX Tryd.prog (mBin .add 9 t8 t61) w (pk K) fun t62 w =>
 J3 [t7, t62, t9] w) (DoX Tryd.prog (mBin .add 3 t10 (.int .i64 1)) w (pk K) fun t67 w =>
 DoX Tryd.prog (mSlice 9 t0 (some t10) (some t67) none) w (pk K) fun t68 w =>
 DoX Tryd.prog (mBin .add 9 t7 t68) w (pk K) fun t69 w =>
 J3 [t69, t8, t9] w)))) (fun vs3 w => ∀ _ : Sg, S_foliantref02_form_2 (vs3.getD 0 undef) (vs3.getD 1 undef) (vs3.getD 2 undef) t10 w N2 K)) (DoX Tryd.prog (mB .len #[9] 3 #[false] #[t7]) w (pk K) fun t74 w =>
 DoX Tryd.prog (mB .len #[9] 3 #[false] #[t8]) w (pk K) fun t76 w =>
 DoX Tryd.prog (mBin .add 3 t74 t76) w (pk K) fun t77 w =>
 DoX Tryd.prog (mBin .gtr 3 t77 (.int .i64 0)) w (pk K) fun t78 w =>
 K (.returned (.tuple #[t7, t8, t6, t78])) w)
def S_foliantref02_form_0 (t0 t6 : Value) (w : World) (K : Ending → World → Prop) : Prop :=
 LoopX [(.string ⟨#[]⟩), (.string ⟨#[]⟩), (.bool false), (.int .i64 0)] w (fun vs2 w N2 => ∀ _ : Sg, S_foliantref02_form_1 t0 t6 (vs2.getD 0 undef) (vs2.getD 1 undef) (vs2.getD 2 undef) (vs2.getD 3 undef) w N2 K)
def S_foliantref02_form (t0 : Value) (w : World) (K : Ending → World → Prop) : Prop :=
 DoX Tryd.prog (mB .len #[9] 3 #[false] #[t0]) w (pk K) fun t12 w =>
 DoX Tryd.prog (mBin .gtr 3 t12 (.int .i64 40)) w (pk K) fun t13 w =>
 IfX t13 (K (.returned (.tuple #[(.string ⟨#[]⟩), (.string ⟨#[]⟩), (.bool false), (.bool false)])) w) (JoinX (fun J1 =>
 DoX Tryd.prog (mEq .neq 9 (.tmp 14) (.const (.string ⟨#[]⟩)) t0 (.string ⟨#[]⟩)) w (pk K) fun t15 w =>
 GDo t15 true (fun E => E t0 w) w fun t17 w =>
 GDo t15 true (fun E => DoX Tryd.prog (mIx 9 t17 (.int .i64 0)) w (pk K) E) w fun t18 w =>
 GDo t15 true (fun E => DoX Tryd.prog (mEq .eql 5 (.tmp 18) (.const (.int .u8 43)) t18 (.int .u8 43)) w (pk K) E) w fun t19 w =>
 GDo t15 true (fun E => E t19 w) w fun t20 w =>
 GDo t20 false (fun E => E t0 w) w fun t21 w =>
 GDo t20 false (fun E => DoX Tryd.prog (mIx 9 t21 (.int .i64 0)) w (pk K) E) w fun t22 w =>
 GDo t20 false (fun E => DoX Tryd.prog (mEq .eql 5 (.tmp 22) (.const (.int .u8 45)) t22 (.int .u8 45)) w (pk K) E) w fun t23 w =>
 GDo t15 true (fun E => DoX Tryd.prog (mPick t20 (.bool true) t23) w (pk K) E) w fun t24 w =>
 DoX Tryd.prog (mPick t15 t24 (.bool false)) w (pk K) fun t25 w =>
 IfX t25 (DoX Tryd.prog (mIx 9 t0 (.int .i64 0)) w (pk K) fun t27 w =>
 DoX Tryd.prog (mEq .eql 5 (.tmp 27) (.const (.int .u8 45)) t27 (.int .u8 45)) w (pk K) fun t28 w =>
 DoX Tryd.prog (mSlice 9 t0 (some (.int .i64 1)) none none) w (pk K) fun t30 w =>
 J1 [t30, t28] w) (J1 [t0, (.bool false)] w)) (fun vs1 w => ∀ _ : Sg, S_foliantref02_form_0 (vs1.getD 0 undef) (vs1.getD 1 undef) w K))
theorem S_foliantref02_form_eq (t0 : Value) (w : World) (K : Ending → World → Prop) : wpX Tryd.prog 79 [(7, [0, 6]), (10, [7, 8, 9])] [(9, [7, 8, 9, 10])] (bodyOf Tryd.f71) (topQ Tryd.prog [.tmp 2, .tmp 3, .tmp 4, .tmp 5] K) (startX [t0]) [] w = S_foliantref02_form t0 w K := by kernel_rfl
theorem S_foliantref02_form_ok {t0 : Value} {w : World} {K : Ending → World → Prop} (h : S_foliantref02_form t0 w K) : Calls Tryd.prog 71 #[t0] w K :=
  calls_of_wpX Tryd.func71 rfl rfl rfl rfl (Eq.mpr (S_foliantref02_form_eq t0 w K) h)

/- foliantref02.Read -/
def S_foliantref02_Read_5 (t8 : Value) (w : World) (K : Ending → World → Prop) : Prop :=
 CallX Tryd.prog 72 #[t8] w (pk K) fun t84 w =>
 DoX Tryd.prog (mUn .not t84) w (pk K) fun t85 w =>
 IfX t85 (K (.returned (.tuple #[(.int .i64 0), (.int .i64 2)])) w) (K (.returned (.tuple #[t8, (.int .i64 0)])) w)
def S_foliantref02_Read_4 (t6 t8 : Value) (w : World) (K : Ending → World → Prop) : Prop :=
 JoinX (fun J6 =>
 IfX t6 (DoX Tryd.prog (mUn .neg t8) w (pk K) fun t82 w =>
 J6 [t82] w) (J6 [t8] w)) (fun vs6 w => ∀ _ : Sg, S_foliantref02_Read_5 (vs6.getD 0 undef) w K)
def S_foliantref02_Read_3 (t6 t8 t12 : Value) (w : World) (K : Ending → World → Prop) : Prop :=
 JoinX (fun J5 =>
 IfX t12 (DoX Tryd.prog (mBin .add 2 t8 (.int .i64 1)) w (pk K) fun t79 w =>
 J5 [t79] w) (J5 [t8] w)) (fun vs5 w => ∀ _ : Sg, S_foliantref02_Read_4 t6 (vs5.getD 0 undef) w K)
def S_foliantref02_Read_2 (t11 t13 t14 : Value) (w : World) (J3 N4 : List Value → World → Prop) (K : Ending → World → Prop) : Prop :=
 DoX Tryd.prog (mB .len #[9] 3 #[false] #[t11]) w (pk K) fun t65 w =>
 DoX Tryd.prog (mBin .lss 3 t14 t65) w (pk K) fun t66 w =>
 IfX t66 (GDo t13 false (fun E => E t11 w) w fun t71 w =>
 GDo t13 false (fun E => E t14 w) w fun t72 w =>
 GDo t13 false (fun E => DoX Tryd.prog (mIx 9 t71 t72) w (pk K) E) w fun t73 w =>
 GDo t13 false (fun E => DoX Tryd.prog (mBin .gtr 5 t73 (.int .u8 48)) w (pk K) E) w fun t74 w =>
 DoX Tryd.prog (mPick t13 (.bool true) t74) w (pk K) fun t75 w =>
 DoX Tryd.prog (mBin .add 3 t14 (.int .i64 1)) w (pk K) fun t68 w =>
 N4 [t75, t68] w) (J3 [t13] w)
def S_foliantref02_Read_1 (t6 t8 t11 : Value) (w : World) (K : Ending → World → Prop) : Prop :=
 DoX Tryd.prog (mEq .neq 9 (.tmp 49) (.const (.string ⟨#[]⟩)) t11 (.string ⟨#[]⟩)) w (pk K) fun t50 w =>
 GDo t50 true (fun E => E t11 w) w fun t52 w =>
 GDo t50 true (fun E => DoX Tryd.prog (mIx 9 t52 (.int .i64 0)) w (pk K) E) w fun t53 w =>
 GDo t50 true (fun E => DoX Tryd.prog (mBin .geq 5 t53 (.int .u8 53)) w (pk K) E) w fun t54 w =>
 DoX Tryd.prog (mPick t50 t54 (.bool false)) w (pk K) fun t55 w =>
 JoinX (fun J3 =>
 GDo t55 true (fun E => E t6 w) w fun t58 w =>
 DoX Tryd.prog (mPick t55 t58 (.bool false)) w (pk K) fun t59 w =>
 IfX t59 (DoX Tryd.prog (mIx 9 t11 (.int .i64 0)) w (pk K) fun t61 w =>
 DoX Tryd.prog (mBin .gtr 5 t61 (.int .u8 53)) w (pk K) fun t62 w =>
 LoopX [t62, (.int .i64 1)] w (fun vs4 w N4 => ∀ _ : Sg, S_foliantref02_Read_2 t11 (vs4.getD 0 undef) (vs4.getD 1 undef) w J3 N4 K)) (J3 [t55] w)) (fun vs3 w => ∀ _ : Sg, S_foliantref02_Read_3 t6 t8 (vs3.getD 0 undef) w K)
def S_foliantref02_Read_0 (t5 t6 t8 t9 t10 : Value) (w : World) (N1 : List Value → World → Prop) (K : Ending → World → Prop) : Prop :=
 DoX Tryd.prog (mB .len #[9] 3 #[false] #[t9]) w (pk K) fun t31 w =>
 DoX Tryd.prog (mBin .lss 3 t10 t31) w (pk K) fun t32 w =>
 IfX t32 (DoX Tryd.prog (mBin .mul 2 (.int .i64 10) t8) w (pk K) fun t36 w =>
 DoX Tryd.prog (mIx 9 t9 t10) w (pk K) fun t39 w =>
 DoX Tryd.prog (mBin .sub 5 t39 (.int .u8 48)) w (pk K) fun t40 w =>
 DoX Tryd.prog (mConv 5 2 t40) w (pk K) fun t41 w =>
 DoX Tryd.prog (mBin .add 2 t36 t41) w (pk K) fun t42 w =>
 DoX Tryd.prog (mB .min #[2, 2] 2 #[false, true] #[t42, (.int .i64 1099511627776)]) w (pk K) fun t43 w =>
 DoX Tryd.prog (mBin .add 3 t10 (.int .i64 1)) w (pk K) fun t34 w =>
 N1 [t43, t34] w) (JoinX (fun J2 =>
 DoX Tryd.prog (mB .len #[9] 3 #[false] #[t5]) w (pk K) fun t45 w =>
 DoX Tryd.prog (mBin .gtr 3 t45 (.int .i64 4)) w (pk K) fun t46 w =>
 IfX t46 (DoX Tryd.prog (mSlice 9 t5 (some (.int .i64 4)) none none) w (pk K) fun t48 w =>
 J2 [t48] w) (J2 [(.string ⟨#[]⟩)] w)) (fun vs2 w => ∀ _ : Sg, S_foliantref02_Read_1 t6 t8 (vs2.getD 0 undef) w K))
def S_foliantref02_Read (t0 : Value) (w : World) (K : Ending → World → Prop) : Prop :=
 CallX Tryd.prog 71 #[t0] w (pk K) fun t17 w =>
 DoX Tryd.prog (mExt t17 0) w (pk K) fun t18 w =>
 DoX Tryd.prog (mExt t17 1) w (pk K) fun t19 w =>
 DoX Tryd.prog (mExt t17 2) w (pk K) fun t20 w =>
 DoX Tryd.prog (mExt t17 3) w (pk K) fun t21 w =>
 DoX Tryd.prog (mUn .not t21) w (pk K) fun t23 w =>
 IfX t23 (K (.returned (.tuple #[(.int .i64 0), (.int .i64 3)])) w) (DoX Tryd.prog (mBin .add 9 t19 (.string ⟨#[48, 48, 48, 48]⟩)) w (pk K) fun t26 w =>
 DoX Tryd.prog (mSlice 9 t26 none (some (.int .i64 4)) none) w (pk K) fun t27 w =>
 DoX Tryd.prog (mBin .add 9 t18 t27) w (pk K) fun t28 w =>
 LoopX [(.int .i64 0), (.int .i64 0)] w (fun vs1 w N1 => ∀ _ : Sg, S_foliantref02_Read_0 t19 t20 (vs1.getD 0 undef) t28 (vs1.getD 1 undef) w N1 K))
theorem S_foliantref02_Read_eq (t0 : Value) (w : World) (K : Ending → World → Prop) : wpX Tryd.prog 87 [(13, [11]), (21, [12]), (23, [8]), (25, [8])] [(7, [8, 10]), (17, [13, 14])] (bodyOf Tryd.f19) (topQ Tryd.prog [.tmp 2, .tmp 3] K) (startX [t0]) [] w = S_foliantref02_Read t0 w K := by kernel_rfl
theorem S_foliantref02_Read_ok {t0 : Value} {w : World} {K : Ending → World → Prop} (h : S_foliantref02_Read t0 w K) : Calls Tryd.prog 19 #[t0] w K :=
  calls_of_wpX Tryd.func19 rfl rfl rfl rfl (Eq.mpr (S_foliantref02_Read_eq t0 w K) h)

end Go.Proofs.YtfnpfbgnhncgpaaDoor
