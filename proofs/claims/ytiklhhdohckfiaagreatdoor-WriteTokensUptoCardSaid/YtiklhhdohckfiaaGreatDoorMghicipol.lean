/- Texts that go together: SVal ObG ObH ObI Plain07 SRef07 SRef04 PlR PlS Plain03 Plain03B Plain03C Plain03D Plain03E Plain04B Plain03F Plain03G Plain17 Plain17B Plain55 SOct LxA SLex LxB LxC LxD LxE LxF LxG LxH LxI. -/
import Derived.Test.YtiklhhdohckfiaaGreatDoorRows
import Derived.Lib.IndexMore
import Derived.Lib.LastIndexLaws
import Derived.Test.YtiklhhdohckfiaaGreatDoorMcpkpoill
import Derived.Test.YtiklhhdohckfiaaGreatDoorMpncofdfc
/- Code in continuation form, by program (gen.py): 13 functions. -/
namespace Go.Proofs.YtiklhhdohckfiaaGreatDoor
set_option linter.unusedVariables false
set_option linter.unusedSimpArgs false
set_option linter.defProp false
set_option linter.unusedVariables false
set_option maxRecDepth 20000
open Eng

/- value.within[int64] -/
def S_value_within_int64 (t0 t1 t2 : Value) (w : World) (K : Ending → World → Prop) : Prop :=
 DoX Tryz.prog (mBin .leq 2 t1 t0) w (pk K) fun t9 w =>
 GDo t9 true (fun E => E t0 w) w fun t11 w =>
 GDo t9 true (fun E => E t2 w) w fun t12 w =>
 GDo t9 true (fun E => DoX Tryz.prog (mBin .leq 2 t11 t12) w (pk K) E) w fun t13 w =>
 DoX Tryz.prog (mPick t9 t13 (.bool false)) w (pk K) fun t14 w =>
 K (.returned t14) w
theorem S_value_within_int64_eq (t0 t1 t2 : Value) (w : World) (K : Ending → World → Prop) : wpX Tryz.prog 15 [] [] none (bodyOf Tryz.f205) (topQ Tryz.prog [.tmp 6] K) (startX [t0, t1, t2]) [] w = S_value_within_int64 t0 t1 t2 w K := by kernel_rfl
theorem S_value_within_int64_ok {t0 t1 t2 : Value} {w : World} {K : Ending → World → Prop} (h : S_value_within_int64 t0 t1 t2 w K) : Calls Tryz.prog 205 #[t0, t1, t2] w K :=
  calls_of_wpX Tryz.func205 rfl rfl rfl rfl (Eq.mpr (S_value_within_int64_eq t0 t1 t2 w K) h)

/- value.within[int] -/
def S_value_within_int (t0 t1 t2 : Value) (w : World) (K : Ending → World → Prop) : Prop :=
 DoX Tryz.prog (mBin .leq 3 t1 t0) w (pk K) fun t9 w =>
 GDo t9 true (fun E => E t0 w) w fun t11 w =>
 GDo t9 true (fun E => E t2 w) w fun t12 w =>
 GDo t9 true (fun E => DoX Tryz.prog (mBin .leq 3 t11 t12) w (pk K) E) w fun t13 w =>
 DoX Tryz.prog (mPick t9 t13 (.bool false)) w (pk K) fun t14 w =>
 K (.returned t14) w
theorem S_value_within_int_eq (t0 t1 t2 : Value) (w : World) (K : Ending → World → Prop) : wpX Tryz.prog 15 [] [] none (bodyOf Tryz.f206) (topQ Tryz.prog [.tmp 6] K) (startX [t0, t1, t2]) [] w = S_value_within_int t0 t1 t2 w K := by kernel_rfl
theorem S_value_within_int_ok {t0 t1 t2 : Value} {w : World} {K : Ending → World → Prop} (h : S_value_within_int t0 t1 t2 w K) : Calls Tryz.prog 206 #[t0, t1, t2] w K :=
  calls_of_wpX Tryz.func206 rfl rfl rfl rfl (Eq.mpr (S_value_within_int_eq t0 t1 t2 w K) h)

/- value.key -/
def S_value_key (t0 : Value) (w : World) (K : Ending → World → Prop) : Prop :=
 DoX Tryz.prog (mB .len #[9] 3 #[false] #[t0]) w (pk K) fun t4 w =>
 DoX Tryz.prog (mBin .leq 3 t4 (.int .i64 127)) w (pk K) fun t5 w =>
 GDo t5 true (fun E => E t0 w) w fun t7 w =>
 GDo t5 true (fun E => CallX Tryz.prog 162 #[t7, (.int .u8 0)] w (pk K) E) w fun t8 w =>
 GDo t5 true (fun E => DoX Tryz.prog (mBin .lss 3 t8 (.int .i64 0)) w (pk K) E) w fun t9 w =>
 DoX Tryz.prog (mPick t5 t9 (.bool false)) w (pk K) fun t10 w =>
 K (.returned t10) w
theorem S_value_key_eq (t0 : Value) (w : World) (K : Ending → World → Prop) : wpX Tryz.prog 11 [] [] none (bodyOf Tryz.f156) (topQ Tryz.prog [.tmp 2] K) (startX [t0]) [] w = S_value_key t0 w K := by kernel_rfl
theorem S_value_key_ok {t0 : Value} {w : World} {K : Ending → World → Prop} (h : S_value_key t0 w K) : Calls Tryz.prog 156 #[t0] w K :=
  calls_of_wpX Tryz.func156 rfl rfl rfl rfl (Eq.mpr (S_value_key_eq t0 w K) h)

/- value.rising -/
def S_value_rising_0 (t1 t13 t14 t15 : Value) (w : World) (N1 : List Value → World → Prop) (K : Ending → World → Prop) : Prop :=
 DoX Tryz.prog (mBin .lss 3 t15 t14) w (pk K) fun t16 w =>
 IfX t16 (DoX Tryz.prog (mIA 22 t13 t15) w (pk K) fun t18 w =>
 DoX Tryz.prog (mLoad 9 t18) w (pk K) fun t19 w =>
 CallX Tryz.prog 156 #[t19] w (pk K) fun t21 w =>
 DoX Tryz.prog (mUn .not t21) w (pk K) fun t22 w =>
 GDo t22 false (fun E => E t15 w) w fun t24 w =>
 GDo t22 false (fun E => DoX Tryz.prog (mBin .gtr 3 t24 (.int .i64 0)) w (pk K) E) w fun t25 w =>
 GDo t22 false (fun E => E t25 w) w fun t26 w =>
 GDo t26 true (fun E => DoX Tryz.prog (mFA 25 t1 4) w (pk K) E) w fun t27 w =>
 GDo t26 true (fun E => DoX Tryz.prog (mLoad 22 t27) w (pk K) E) w fun t28 w =>
 GDo t26 true (fun E => E t15 w) w fun t29 w =>
 GDo t26 true (fun E => DoX Tryz.prog (mBin .sub 3 t29 (.int .i64 1)) w (pk K) E) w fun t30 w =>
 GDo t26 true (fun E => DoX Tryz.prog (mIA 22 t28 t30) w (pk K) E) w fun t31 w =>
 GDo t26 true (fun E => DoX Tryz.prog (mLoad 9 t31) w (pk K) E) w fun t32 w =>
 GDo t26 true (fun E => E t19 w) w fun t33 w =>
 GDo t26 true (fun E => DoX Tryz.prog (mBin .geq 9 t32 t33) w (pk K) E) w fun t34 w =>
 GDo t22 false (fun E => DoX Tryz.prog (mPick t26 t34 (.bool false)) w (pk K) E) w fun t35 w =>
 DoX Tryz.prog (mPick t22 (.bool true) t35) w (pk K) fun t36 w =>
 GDo t36 false (fun E => DoX Tryz.prog (mFA 25 t1 0) w (pk K) E) w fun t38 w =>
 GDo t36 false (fun E => DoX Tryz.prog (mLoad 3 t38) w (pk K) E) w fun t39 w =>
 GDo t36 false (fun E => DoX Tryz.prog (mEq .eql 3 (.tmp 39) (.const (.int .i64 9)) t39 (.int .i64 9)) w (pk K) E) w fun t40 w =>
 GDo t36 false (fun E => E t40 w) w fun t41 w =>
 GDo t41 true (fun E => E t19 w) w fun t42 w =>
 GDo t41 true (fun E => DoX Tryz.prog (mEq .eql 9 (.tmp 42) (.const (.string ⟨#[76, 101, 110, 103, 116, 104]⟩)) t42 (.string ⟨#[76, 101, 110, 103, 116, 104]⟩)) w (pk K) E) w fun t43 w =>
 GDo t36 false (fun E => DoX Tryz.prog (mPick t41 t43 (.bool false)) w (pk K) E) w fun t44 w =>
 DoX Tryz.prog (mPick t36 (.bool true) t44) w (pk K) fun t45 w =>
 GDo t45 false (fun E => DoX Tryz.prog (mFA 25 t1 5) w (pk K) E) w fun t47 w =>
 GDo t45 false (fun E => DoX Tryz.prog (mLoad 23 t47) w (pk K) E) w fun t48 w =>
 GDo t45 false (fun E => E t15 w) w fun t49 w =>
 GDo t45 false (fun E => DoX Tryz.prog (mIA 23 t48 t49) w (pk K) E) w fun t50 w =>
 GDo t45 false (fun E => DoX Tryz.prog (mFA 25 t50 0) w (pk K) E) w fun t51 w =>
 GDo t45 false (fun E => DoX Tryz.prog (mLoad 3 t51) w (pk K) E) w fun t52 w =>
 GDo t45 false (fun E => DoX Tryz.prog (mEq .eql 3 (.tmp 52) (.const (.int .i64 0)) t52 (.int .i64 0)) w (pk K) E) w fun t53 w =>
 DoX Tryz.prog (mPick t45 (.bool true) t53) w (pk K) fun t54 w =>
 IfX t54 (K (.returned (.bool false)) w) (DoX Tryz.prog (mBin .add 3 t15 (.int .i64 1)) w (pk K) fun t55 w =>
 N1 [t55] w)) (K (.returned (.bool true)) w)
def S_value_rising (t0 : Value) (w : World) (K : Ending → World → Prop) : Prop :=
 DoX Tryz.prog (mBox 25 t0) w (pk K) fun t1 w =>
 DoX Tryz.prog (mFA 25 t1 4) w (pk K) fun t5 w =>
 DoX Tryz.prog (mLoad 22 t5) w (pk K) fun t6 w =>
 DoX Tryz.prog (mB .len #[22] 3 #[false] #[t6]) w (pk K) fun t7 w =>
 DoX Tryz.prog (mFA 25 t1 5) w (pk K) fun t8 w =>
 DoX Tryz.prog (mLoad 23 t8) w (pk K) fun t9 w =>
 DoX Tryz.prog (mB .len #[23] 3 #[false] #[t9]) w (pk K) fun t10 w =>
 DoX Tryz.prog (mEq .neq 3 (.tmp 7) (.tmp 10) t7 t10) w (pk K) fun t11 w =>
 IfX t11 (K (.returned (.bool false)) w) (DoX Tryz.prog (mFA 25 t1 4) w (pk K) fun t12 w =>
 DoX Tryz.prog (mLoad 22 t12) w (pk K) fun t13 w =>
 DoX Tryz.prog (mB .len #[22] 3 #[false] #[t13]) w (pk K) fun t14 w =>
 LoopX [(.int .i64 0)] w (fun vs1 w N1 => ∀ _ : Sg, S_value_rising_0 t1 t13 t14 (vs1.getD 0 undef) w N1 K))
theorem S_value_rising_eq (t0 : Value) (w : World) (K : Ending → World → Prop) : wpX Tryz.prog 56 [] [(4, [15])] none (bodyOf Tryz.f157) (topQ Tryz.prog [.tmp 2] K) (startX [t0]) [] w = S_value_rising t0 w K := by kernel_rfl
theorem S_value_rising_ok {t0 : Value} {w : World} {K : Ending → World → Prop} (h : S_value_rising t0 w K) : Calls Tryz.prog 157 #[t0] w K :=
  calls_of_wpX Tryz.func157 rfl rfl rfl rfl (Eq.mpr (S_value_rising_eq t0 w K) h)

/- value.fits -/
def S_value_fits (t0 : Value) (w : World) (K : Ending → World → Prop) : Prop :=
 DoX Tryz.prog (mBox 25 t0) w (pk K) fun t1 w =>
 DoX Tryz.prog (mFA 25 t1 0) w (pk K) fun t3 w =>
 DoX Tryz.prog (mLoad 3 t3) w (pk K) fun t4 w =>
 DoX Tryz.prog (mEq .eql 3 (.tmp 4) (.const (.int .i64 1)) t4 (.int .i64 1)) w (pk K) fun t6 w =>
 IfX t6 (DoX Tryz.prog (mFA 25 t1 1) w (pk K) fun t7 w =>
 DoX Tryz.prog (mLoad 2 t7) w (pk K) fun t8 w =>
 CallX Tryz.prog 205 #[t8, (.int .i64 0), (.int .i64 1)] w (pk K) fun t9 w =>
 K (.returned t9) w) (DoX Tryz.prog (mEq .eql 3 (.tmp 4) (.const (.int .i64 2)) t4 (.int .i64 2)) w (pk K) fun t11 w =>
 IfX t11 (DoX Tryz.prog (mFA 25 t1 1) w (pk K) fun t12 w =>
 DoX Tryz.prog (mLoad 2 t12) w (pk K) fun t13 w =>
 CallX Tryz.prog 205 #[t13, (.int .i64 (-2147483647)), (.int .i64 2147483647)] w (pk K) fun t14 w =>
 K (.returned t14) w) (DoX Tryz.prog (mEq .eql 3 (.tmp 4) (.const (.int .i64 3)) t4 (.int .i64 3)) w (pk K) fun t16 w =>
 IfX t16 (DoX Tryz.prog (mFA 25 t1 1) w (pk K) fun t17 w =>
 DoX Tryz.prog (mLoad 2 t17) w (pk K) fun t18 w =>
 CallX Tryz.prog 205 #[t18, (.int .i64 (-1073741824)), (.int .i64 1073741824)] w (pk K) fun t19 w =>
 K (.returned t19) w) (DoX Tryz.prog (mEq .eql 3 (.tmp 4) (.const (.int .i64 8)) t4 (.int .i64 8)) w (pk K) fun t21 w =>
 IfX t21 (DoX Tryz.prog (mFA 25 t1 1) w (pk K) fun t22 w =>
 DoX Tryz.prog (mLoad 2 t22) w (pk K) fun t23 w =>
 CallX Tryz.prog 205 #[t23, (.int .i64 1), (.int .i64 8191)] w (pk K) fun t24 w =>
 GDo t24 true (fun E => DoX Tryz.prog (mFA 25 t1 2) w (pk K) E) w fun t26 w =>
 GDo t24 true (fun E => DoX Tryz.prog (mLoad 3 t26) w (pk K) E) w fun t27 w =>
 GDo t24 true (fun E => CallX Tryz.prog 206 #[t27, (.int .i64 0), (.int .i64 65535)] w (pk K) E) w fun t28 w =>
 DoX Tryz.prog (mPick t24 t28 (.bool false)) w (pk K) fun t29 w =>
 K (.returned t29) w) (K (.returned (.bool true)) w))))
theorem S_value_fits_eq (t0 : Value) (w : World) (K : Ending → World → Prop) : wpX Tryz.prog 30 [] [] none (bodyOf Tryz.f154) (topQ Tryz.prog [.tmp 2] K) (startX [t0]) [] w = S_value_fits t0 w K := by kernel_rfl
theorem S_value_fits_ok {t0 : Value} {w : World} {K : Ending → World → Prop} (h : S_value_fits t0 w K) : Calls Tryz.prog 154 #[t0] w K :=
  calls_of_wpX Tryz.func154 rfl rfl rfl rfl (Eq.mpr (S_value_fits_eq t0 w K) h)

/- value.short -/
def S_value_short (t0 : Value) (w : World) (K : Ending → World → Prop) : Prop :=
 DoX Tryz.prog (mBox 25 t0) w (pk K) fun t1 w =>
 DoX Tryz.prog (mFA 25 t1 0) w (pk K) fun t3 w =>
 DoX Tryz.prog (mLoad 3 t3) w (pk K) fun t4 w =>
 DoX Tryz.prog (mEq .eql 3 (.tmp 4) (.const (.int .i64 4)) t4 (.int .i64 4)) w (pk K) fun t6 w =>
 IfX t6 (DoX Tryz.prog (mFA 25 t1 3) w (pk K) fun t7 w =>
 DoX Tryz.prog (mLoad 9 t7) w (pk K) fun t8 w =>
 DoX Tryz.prog (mB .len #[9] 3 #[false] #[t8]) w (pk K) fun t9 w =>
 DoX Tryz.prog (mBin .leq 3 t9 (.int .i64 32767)) w (pk K) fun t10 w =>
 K (.returned t10) w) (DoX Tryz.prog (mEq .eql 3 (.tmp 4) (.const (.int .i64 5)) t4 (.int .i64 5)) w (pk K) fun t12 w =>
 IfX t12 (DoX Tryz.prog (mFA 25 t1 3) w (pk K) fun t13 w =>
 DoX Tryz.prog (mLoad 9 t13) w (pk K) fun t14 w =>
 DoX Tryz.prog (mB .len #[9] 3 #[false] #[t14]) w (pk K) fun t15 w =>
 DoX Tryz.prog (mBin .leq 3 t15 (.int .i64 127)) w (pk K) fun t16 w =>
 K (.returned t16) w) (DoX Tryz.prog (mFA 25 t1 3) w (pk K) fun t17 w =>
 DoX Tryz.prog (mLoad 9 t17) w (pk K) fun t18 w =>
 DoX Tryz.prog (mB .len #[9] 3 #[false] #[t18]) w (pk K) fun t19 w =>
 DoX Tryz.prog (mBin .leq 3 t19 (.int .i64 1048576)) w (pk K) fun t20 w =>
 K (.returned t20) w))
theorem S_value_short_eq (t0 : Value) (w : World) (K : Ending → World → Prop) : wpX Tryz.prog 21 [] [] none (bodyOf Tryz.f155) (topQ Tryz.prog [.tmp 2] K) (startX [t0]) [] w = S_value_short t0 w K := by kernel_rfl
theorem S_value_short_ok {t0 : Value} {w : World} {K : Ending → World → Prop} (h : S_value_short t0 w K) : Calls Tryz.prog 155 #[t0] w K :=
  calls_of_wpX Tryz.func155 rfl rfl rfl rfl (Eq.mpr (S_value_short_eq t0 w K) h)

/- value.used -/
def S_value_used_1 (t2 t4 t13 : Value) (w : World) (K : Ending → World → Prop) : Prop :=
 IfX t13 (DoX Tryz.prog (mBuild 159 #[(2, (.bool true))]) w (pk K) fun t16 w =>
 DoX Tryz.prog (mStore 159 t2 t16) w (pk K) fun _ w =>
 RetX Tryz.prog [.cell t2 159, .val (.bool true)] w K) (DoX Tryz.prog (mEq .eql 3 (.tmp 4) (.const (.int .i64 6)) t4 (.int .i64 6)) w (pk K) fun t18 w =>
 IfX t18 (DoX Tryz.prog (mBuild 159 #[(4, (.bool true))]) w (pk K) fun t19 w =>
 DoX Tryz.prog (mStore 159 t2 t19) w (pk K) fun _ w =>
 RetX Tryz.prog [.cell t2 159, .val (.bool true)] w K) (DoX Tryz.prog (mEq .eql 3 (.tmp 4) (.const (.int .i64 7)) t4 (.int .i64 7)) w (pk K) fun t21 w =>
 IfX t21 (DoX Tryz.prog (mBuild 159 #[(3, (.bool true)), (4, (.bool true))]) w (pk K) fun t22 w =>
 DoX Tryz.prog (mStore 159 t2 t22) w (pk K) fun _ w =>
 RetX Tryz.prog [.cell t2 159, .val (.bool true)] w K) (DoX Tryz.prog (mEq .eql 3 (.tmp 4) (.const (.int .i64 8)) t4 (.int .i64 8)) w (pk K) fun t24 w =>
 IfX t24 (DoX Tryz.prog (mBuild 159 #[(0, (.bool true)), (1, (.bool true))]) w (pk K) fun t25 w =>
 DoX Tryz.prog (mStore 159 t2 t25) w (pk K) fun _ w =>
 RetX Tryz.prog [.cell t2 159, .val (.bool true)] w K) (DoX Tryz.prog (mEq .eql 3 (.tmp 4) (.const (.int .i64 9)) t4 (.int .i64 9)) w (pk K) fun t27 w =>
 IfX t27 (DoX Tryz.prog (mBuild 159 #[(2, (.bool true)), (3, (.bool true)), (4, (.bool true))]) w (pk K) fun t28 w =>
 DoX Tryz.prog (mStore 159 t2 t28) w (pk K) fun _ w =>
 RetX Tryz.prog [.cell t2 159, .val (.bool true)] w K) (DoX Tryz.prog (mBuild 159 #[]) w (pk K) fun t29 w =>
 DoX Tryz.prog (mStore 159 t2 t29) w (pk K) fun _ w =>
 RetX Tryz.prog [.cell t2 159, .val (.bool false)] w K)))))
def S_value_used_0 (t2 t4 t8 : Value) (w : World) (K : Ending → World → Prop) : Prop :=
 IfX t8 (DoX Tryz.prog (mBuild 159 #[(0, (.bool true))]) w (pk K) fun t12 w =>
 DoX Tryz.prog (mStore 159 t2 t12) w (pk K) fun _ w =>
 RetX Tryz.prog [.cell t2 159, .val (.bool true)] w K) (JoinX (fun J2 =>
 DoX Tryz.prog (mEq .eql 3 (.tmp 4) (.const (.int .i64 4)) t4 (.int .i64 4)) w (pk K) fun t14 w =>
 IfX t14 (J2 [t14] w) (DoX Tryz.prog (mEq .eql 3 (.tmp 4) (.const (.int .i64 5)) t4 (.int .i64 5)) w (pk K) fun t15 w =>
 J2 [t15] w)) (fun vs2 w => ∀ _ : Sg, S_value_used_1 t2 t4 (vs2.getD 0 undef) w K))
def S_value_used (t0 : Value) (w : World) (K : Ending → World → Prop) : Prop :=
 DoX Tryz.prog (mAlloc 159) w (pk K) fun t2 w =>
 DoX Tryz.prog (mEq .eql 3 (.tmp 4) (.const (.int .i64 0)) t0 (.int .i64 0)) w (pk K) fun t6 w =>
 IfX t6 (DoX Tryz.prog (mBuild 159 #[]) w (pk K) fun t7 w =>
 DoX Tryz.prog (mStore 159 t2 t7) w (pk K) fun _ w =>
 RetX Tryz.prog [.cell t2 159, .val (.bool true)] w K) (JoinX (fun J1 =>
 DoX Tryz.prog (mEq .eql 3 (.tmp 4) (.const (.int .i64 1)) t0 (.int .i64 1)) w (pk K) fun t9 w =>
 IfX t9 (J1 [t9] w) (DoX Tryz.prog (mEq .eql 3 (.tmp 4) (.const (.int .i64 2)) t0 (.int .i64 2)) w (pk K) fun t10 w =>
 IfX t10 (J1 [t10] w) (DoX Tryz.prog (mEq .eql 3 (.tmp 4) (.const (.int .i64 3)) t0 (.int .i64 3)) w (pk K) fun t11 w =>
 J1 [t11] w))) (fun vs1 w => ∀ _ : Sg, S_value_used_0 t2 t0 (vs1.getD 0 undef) w K))
theorem S_value_used_eq (t0 : Value) (w : World) (K : Ending → World → Prop) : wpX Tryz.prog 30 [(7, [8]), (10, [13])] [] none (bodyOf Tryz.f153) (topQ Tryz.prog [.cell 2 159, .tmp 3] K) (startX [t0]) [] w = S_value_used t0 w K := by kernel_rfl
theorem S_value_used_ok {t0 : Value} {w : World} {K : Ending → World → Prop} (h : S_value_used t0 w K) : Calls Tryz.prog 153 #[t0] w K :=
  calls_of_wpX Tryz.func153 rfl rfl rfl rfl (Eq.mpr (S_value_used_eq t0 w K) h)

/- value.must -/
def S_value_must (t0 t1 : Value) (w : World) (K : Ending → World → Prop) : Prop :=
 DoX Tryz.prog (mUn .not t0) w (pk K) fun t5 w =>
 IfX t5 (DoX Tryz.prog (mBuild 156 #[(0, t1)]) w (pk K) fun t7 w =>
 DoX Tryz.prog (mIface 156 t7) w (pk K) fun t8 w =>
 DoX Tryz.prog (mPanic t8) w (pk K) fun _ w =>
 K (.returned (.tuple #[])) w) (K (.returned (.tuple #[])) w)
theorem S_value_must_eq (t0 t1 : Value) (w : World) (K : Ending → World → Prop) : wpX Tryz.prog 9 [] [] none (bodyOf Tryz.f152) (topQ Tryz.prog [] K) (startX [t0, t1]) [] w = S_value_must t0 t1 w K := by kernel_rfl
theorem S_value_must_ok {t0 t1 : Value} {w : World} {K : Ending → World → Prop} (h : S_value_must t0 t1 w K) : Calls Tryz.prog 152 #[t0, t1] w K :=
  calls_of_wpX Tryz.func152 rfl rfl rfl rfl (Eq.mpr (S_value_must_eq t0 t1 w K) h)

/- value.check -/
def S_value_check_0 (t1 t105 t106 t107 : Value) (w : World) (N1 : List Value → World → Prop) (K : Ending → World → Prop) : Prop :=
 DoX Tryz.prog (mBin .lss 3 t107 t106) w (pk K) fun t108 w =>
 IfX t108 (DoX Tryz.prog (mIA 23 t105 t107) w (pk K) fun t109 w =>
 DoX Tryz.prog (mLoad 25 t109) w (pk K) fun t110 w =>
 DoX Tryz.prog (mAlloc 25) w (pk K) fun t7 w =>
 DoX Tryz.prog (mStore 25 t7 t110) w (pk K) fun _ w =>
 DoX Tryz.prog (mLoad 25 t7) w (pk K) fun t111 w =>
 DoX Tryz.prog (mBin .add 3 t1 (.int .i64 1)) w (pk K) fun t113 w =>
 CallX Tryz.prog 95 #[t111, t113] w (pk K) fun t114 w =>
 DoX Tryz.prog (mBin .add 3 t107 (.int .i64 1)) w (pk K) fun t115 w =>
 N1 [t115] w) (K (.returned (.tuple #[])) w)
def S_value_check (t0 t1 : Value) (w : World) (K : Ending → World → Prop) : Prop :=
 DoX Tryz.prog (mBox 25 t0) w (pk K) fun t2 w =>
 DoX Tryz.prog (mBin .leq 3 t1 (.int .i64 24)) w (pk K) fun t9 w =>
 CallX Tryz.prog 152 #[t9, (.int .i64 7)] w (pk K) fun t10 w =>
 DoX Tryz.prog (mFA 25 t2 0) w (pk K) fun t12 w =>
 DoX Tryz.prog (mLoad 3 t12) w (pk K) fun t13 w =>
 CallX Tryz.prog 153 #[t13] w (pk K) fun t14 w =>
 DoX Tryz.prog (mExt t14 0) w (pk K) fun t15 w =>
 DoX Tryz.prog (mExt t14 1) w (pk K) fun t16 w =>
 DoX Tryz.prog (mAlloc 159) w (pk K) fun t4 w =>
 DoX Tryz.prog (mStore 159 t4 t15) w (pk K) fun _ w =>
 GDo t16 true (fun E => DoX Tryz.prog (mFA 159 t4 0) w (pk K) E) w fun t19 w =>
 GDo t16 true (fun E => DoX Tryz.prog (mLoad 4 t19) w (pk K) E) w fun t20 w =>
 GDo t16 true (fun E => E t20 w) w fun t21 w =>
 GDo t21 false (fun E => DoX Tryz.prog (mFA 25 t2 1) w (pk K) E) w fun t22 w =>
 GDo t21 false (fun E => DoX Tryz.prog (mLoad 2 t22) w (pk K) E) w fun t23 w =>
 GDo t21 false (fun E => DoX Tryz.prog (mEq .eql 2 (.tmp 23) (.const (.int .i64 0)) t23 (.int .i64 0)) w (pk K) E) w fun t24 w =>
 GDo t16 true (fun E => DoX Tryz.prog (mPick t21 (.bool true) t24) w (pk K) E) w fun t25 w =>
 DoX Tryz.prog (mPick t16 t25 (.bool false)) w (pk K) fun t26 w =>
 GDo t26 true (fun E => DoX Tryz.prog (mFA 159 t4 1) w (pk K) E) w fun t28 w =>
 GDo t26 true (fun E => DoX Tryz.prog (mLoad 4 t28) w (pk K) E) w fun t29 w =>
 GDo t26 true (fun E => E t29 w) w fun t30 w =>
 GDo t30 false (fun E => DoX Tryz.prog (mFA 25 t2 2) w (pk K) E) w fun t31 w =>
 GDo t30 false (fun E => DoX Tryz.prog (mLoad 3 t31) w (pk K) E) w fun t32 w =>
 GDo t30 false (fun E => DoX Tryz.prog (mEq .eql 3 (.tmp 32) (.const (.int .i64 0)) t32 (.int .i64 0)) w (pk K) E) w fun t33 w =>
 GDo t26 true (fun E => DoX Tryz.prog (mPick t30 (.bool true) t33) w (pk K) E) w fun t34 w =>
 DoX Tryz.prog (mPick t26 t34 (.bool false)) w (pk K) fun t35 w =>
 GDo t35 true (fun E => DoX Tryz.prog (mFA 159 t4 2) w (pk K) E) w fun t37 w =>
 GDo t35 true (fun E => DoX Tryz.prog (mLoad 4 t37) w (pk K) E) w fun t38 w =>
 GDo t35 true (fun E => E t38 w) w fun t39 w =>
 GDo t39 false (fun E => DoX Tryz.prog (mFA 25 t2 3) w (pk K) E) w fun t40 w =>
 GDo t39 false (fun E => DoX Tryz.prog (mLoad 9 t40) w (pk K) E) w fun t41 w =>
 GDo t39 false (fun E => DoX Tryz.prog (mEq .eql 9 (.tmp 41) (.const (.string ⟨#[]⟩)) t41 (.string ⟨#[]⟩)) w (pk K) E) w fun t42 w =>
 GDo t35 true (fun E => DoX Tryz.prog (mPick t39 (.bool true) t42) w (pk K) E) w fun t43 w =>
 DoX Tryz.prog (mPick t35 t43 (.bool false)) w (pk K) fun t44 w =>
 GDo t44 true (fun E => DoX Tryz.prog (mFA 159 t4 3) w (pk K) E) w fun t46 w =>
 GDo t44 true (fun E => DoX Tryz.prog (mLoad 4 t46) w (pk K) E) w fun t47 w =>
 GDo t44 true (fun E => E t47 w) w fun t48 w =>
 GDo t48 false (fun E => DoX Tryz.prog (mFA 25 t2 4) w (pk K) E) w fun t49 w =>
 GDo t48 false (fun E => DoX Tryz.prog (mLoad 22 t49) w (pk K) E) w fun t50 w =>
 GDo t48 false (fun E => DoX Tryz.prog (mB .len #[22] 3 #[false] #[t50]) w (pk K) E) w fun t51 w =>
 GDo t48 false (fun E => DoX Tryz.prog (mEq .eql 3 (.tmp 51) (.const (.int .i64 0)) t51 (.int .i64 0)) w (pk K) E) w fun t52 w =>
 GDo t44 true (fun E => DoX Tryz.prog (mPick t48 (.bool true) t52) w (pk K) E) w fun t53 w =>
 DoX Tryz.prog (mPick t44 t53 (.bool false)) w (pk K) fun t54 w =>
 GDo t54 true (fun E => DoX Tryz.prog (mFA 159 t4 4) w (pk K) E) w fun t56 w =>
 GDo t54 true (fun E => DoX Tryz.prog (mLoad 4 t56) w (pk K) E) w fun t57 w =>
 GDo t54 true (fun E => E t57 w) w fun t58 w =>
 GDo t58 false (fun E => DoX Tryz.prog (mFA 25 t2 5) w (pk K) E) w fun t59 w =>
 GDo t58 false (fun E => DoX Tryz.prog (mLoad 23 t59) w (pk K) E) w fun t60 w =>
 GDo t58 false (fun E => DoX Tryz.prog (mB .len #[23] 3 #[false] #[t60]) w (pk K) E) w fun t61 w =>
 GDo t58 false (fun E => DoX Tryz.prog (mEq .eql 3 (.tmp 61) (.const (.int .i64 0)) t61 (.int .i64 0)) w (pk K) E) w fun t62 w =>
 GDo t54 true (fun E => DoX Tryz.prog (mPick t58 (.bool true) t62) w (pk K) E) w fun t63 w =>
 DoX Tryz.prog (mPick t54 t63 (.bool false)) w (pk K) fun t64 w =>
 GDo t64 true (fun E => E t1 w) w fun t66 w =>
 GDo t64 true (fun E => DoX Tryz.prog (mEq .eql 3 (.tmp 66) (.const (.int .i64 1)) t66 (.int .i64 1)) w (pk K) E) w fun t67 w =>
 GDo t64 true (fun E => E t67 w) w fun t68 w =>
 GDo t68 false (fun E => DoX Tryz.prog (mFA 25 t2 0) w (pk K) E) w fun t69 w =>
 GDo t68 false (fun E => DoX Tryz.prog (mLoad 3 t69) w (pk K) E) w fun t70 w =>
 GDo t68 false (fun E => DoX Tryz.prog (mEq .neq 3 (.tmp 70) (.const (.int .i64 9)) t70 (.int .i64 9)) w (pk K) E) w fun t71 w =>
 GDo t64 true (fun E => DoX Tryz.prog (mPick t68 (.bool true) t71) w (pk K) E) w fun t72 w =>
 DoX Tryz.prog (mPick t64 t72 (.bool false)) w (pk K) fun t73 w =>
 CallX Tryz.prog 152 #[t73, (.int .i64 10)] w (pk K) fun t74 w =>
 DoX Tryz.prog (mLoad 25 t2) w (pk K) fun t75 w =>
 CallX Tryz.prog 154 #[t75] w (pk K) fun t76 w =>
 CallX Tryz.prog 152 #[t76, (.int .i64 2)] w (pk K) fun t77 w =>
 DoX Tryz.prog (mLoad 25 t2) w (pk K) fun t78 w =>
 CallX Tryz.prog 155 #[t78] w (pk K) fun t79 w =>
 CallX Tryz.prog 152 #[t79, (.int .i64 5)] w (pk K) fun t80 w =>
 DoX Tryz.prog (mFA 25 t2 5) w (pk K) fun t81 w =>
 DoX Tryz.prog (mLoad 23 t81) w (pk K) fun t82 w =>
 DoX Tryz.prog (mB .len #[23] 3 #[false] #[t82]) w (pk K) fun t83 w =>
 DoX Tryz.prog (mBin .leq 3 t83 (.int .i64 8191)) w (pk K) fun t84 w =>
 CallX Tryz.prog 152 #[t84, (.int .i64 6)] w (pk K) fun t85 w =>
 DoX Tryz.prog (mFA 25 t2 0) w (pk K) fun t86 w =>
 DoX Tryz.prog (mLoad 3 t86) w (pk K) fun t87 w =>
 DoX Tryz.prog (mEq .neq 3 (.tmp 87) (.const (.int .i64 5)) t87 (.int .i64 5)) w (pk K) fun t88 w =>
 GDo t88 false (fun E => DoX Tryz.prog (mFA 25 t2 3) w (pk K) E) w fun t90 w =>
 GDo t88 false (fun E => DoX Tryz.prog (mLoad 9 t90) w (pk K) E) w fun t91 w =>
 GDo t88 false (fun E => CallX Tryz.prog 156 #[t91] w (pk K) E) w fun t92 w =>
 DoX Tryz.prog (mPick t88 (.bool true) t92) w (pk K) fun t93 w =>
 GDo t93 true (fun E => DoX Tryz.prog (mFA 159 t4 3) w (pk K) E) w fun t95 w =>
 GDo t93 true (fun E => DoX Tryz.prog (mLoad 4 t95) w (pk K) E) w fun t96 w =>
 GDo t93 true (fun E => DoX Tryz.prog (mUn .not t96) w (pk K) E) w fun t97 w =>
 GDo t93 true (fun E => E t97 w) w fun t98 w =>
 GDo t98 false (fun E => DoX Tryz.prog (mLoad 25 t2) w (pk K) E) w fun t99 w =>
 GDo t98 false (fun E => CallX Tryz.prog 157 #[t99] w (pk K) E) w fun t100 w =>
 GDo t93 true (fun E => DoX Tryz.prog (mPick t98 (.bool true) t100) w (pk K) E) w fun t101 w =>
 DoX Tryz.prog (mPick t93 t101 (.bool false)) w (pk K) fun t102 w =>
 CallX Tryz.prog 152 #[t102, (.int .i64 3)] w (pk K) fun t103 w =>
 DoX Tryz.prog (mFA 25 t2 5) w (pk K) fun t104 w =>
 DoX Tryz.prog (mLoad 23 t104) w (pk K) fun t105 w =>
 DoX Tryz.prog (mB .len #[23] 3 #[false] #[t105]) w (pk K) fun t106 w =>
 LoopX [(.int .i64 0)] w (fun vs1 w N1 => ∀ _ : Sg, S_value_check_0 t1 t105 t106 (vs1.getD 0 undef) w N1 K)
theorem S_value_check_eq (t0 t1 : Value) (w : World) (K : Ending → World → Prop) : wpX Tryz.prog 116 [] [(9, [107])] none (bodyOf Tryz.f95) (topQ Tryz.prog [] K) (startX [t0, t1]) [] w = S_value_check t0 t1 w K := by kernel_rfl
theorem S_value_check_ok {t0 t1 : Value} {w : World} {K : Ending → World → Prop} (h : S_value_check t0 t1 w K) : Calls Tryz.prog 95 #[t0, t1] w K :=
  calls_of_wpX Tryz.func95 rfl rfl rfl rfl (Eq.mpr (S_value_check_eq t0 t1 w K) h)

/- value.Check$1 -/
def S_value_Check_1 (t0 : Value) (w : World) (K : Ending → World → Prop) : Prop :=
 DoX Tryz.prog (mLoad 25 t0) w (pk K) fun t1 w =>
 CallX Tryz.prog 95 #[t1, (.int .i64 1)] w (pk K) fun t2 w =>
 K (.returned (.tuple #[])) w
theorem S_value_Check_1_eq (t0 : Value) (w : World) (K : Ending → World → Prop) : wpX Tryz.prog 3 [] [] none (bodyOf Tryz.f94) (topQ Tryz.prog [] K) (startX [t0]) [] w = S_value_Check_1 t0 w K := by kernel_rfl
theorem S_value_Check_1_ok {t0 : Value} {w : World} {K : Ending → World → Prop} (h : S_value_Check_1 t0 w K) : Calls Tryz.prog 94 #[t0] w K :=
  calls_of_wpX Tryz.func94 rfl rfl rfl rfl (Eq.mpr (S_value_Check_1_eq t0 w K) h)

/- value.caught$1 -/
def S_value_caught_1 (t0 r : Value) (w : World) (K : Ending → World → Prop) : Prop :=
 DoX Tryz.prog (mEq .eql 20 (.tmp 4) (.const .nilIface) r .nilIface) w (pk K) fun t6 w =>
 IfX t6 (K (.returned (.tuple #[])) w) (DoX Tryz.prog (mTA r 20 156 true) w (pk K) fun t7 w =>
 DoX Tryz.prog (mExt t7 1) w (pk K) fun t8 w =>
 DoX Tryz.prog (mExt t7 0) w (pk K) fun t9 w =>
 IfX t8 (DoX Tryz.prog (mAlloc 156) w (pk K) fun t2 w =>
 DoX Tryz.prog (mStore 156 t2 t9) w (pk K) fun _ w =>
 DoX Tryz.prog (mFA 156 t2 0) w (pk K) fun t10 w =>
 DoX Tryz.prog (mLoad 28 t10) w (pk K) fun t11 w =>
 DoX Tryz.prog (mStore 28 t0 t11) w (pk K) fun _ w =>
 K (.returned (.tuple #[])) w) (DoX Tryz.prog (mPanic r) w (pk K) fun _ w =>
 K (.returned (.tuple #[])) w))
theorem S_value_caught_1_eq (t0 r : Value) (w : World) (K : Ending → World → Prop) : wpX Tryz.prog 12 [] [] none (sndOf (bodyOf Tryz.f151)) (topD Tryz.prog [] K) (upd (startX [t0]) 4 r) [] w = S_value_caught_1 t0 r w K := by kernel_rfl
theorem S_value_caught_1_dok {t0 : Value} {u : FrameMode} {w : World} {R : Ending → FrameMode → World → Prop} (h : S_value_caught_1 t0 (recV u) w (fun e w => R e (recM u) w)) : CallsD Tryz.prog 151 #[t0] u w R :=
  callsD_recover Tryz.func151 rfl rfl rfl rfl rfl rfl rfl rfl (Eq.mpr (S_value_caught_1_eq t0 (recV u) w _) h)

/- value.caught -/
def S_value_caught_p0 (x0 : Deferred) (x1 : Value) (K : Ending → World → Prop) := pd Tryz.prog [.cell x1 28] K [x0]
def S_value_caught (t0 : Value) (w : World) (K : Ending → World → Prop) : Prop :=
 DoX Tryz.prog (mAlloc 28) w (pk K) fun t2 w =>
 DoX Tryz.prog (mFunc (.func 151) #[] #[t2]) w (pk K) fun t3 w =>
 DfrX (dfrV t3 #[]) (fun d1 =>
 DoX Tryz.prog (mCallV t0 #[]) w (S_value_caught_p0 d1 t2 K) fun t5 w =>
 DoX Tryz.prog (mStore 28 t2 (.int .i64 0)) w (S_value_caught_p0 d1 t2 K) fun _ w =>
 Leave Tryz.prog [.cell t2 28] K [d1] .returning w)
theorem S_value_caught_eq (t0 : Value) (w : World) (K : Ending → World → Prop) : wpX Tryz.prog 6 [] [] none (bodyOf Tryz.f93) (topQ Tryz.prog [.cell 2 28] K) (startX [t0]) [] w = S_value_caught t0 w K := by kernel_rfl
theorem S_value_caught_ok {t0 : Value} {w : World} {K : Ending → World → Prop} (h : S_value_caught t0 w K) : Calls Tryz.prog 93 #[t0] w K :=
  calls_of_wpX Tryz.func93 rfl rfl rfl rfl (Eq.mpr (S_value_caught_eq t0 w K) h)

/- value.Check -/
def S_value_Check (t0 : Value) (w : World) (K : Ending → World → Prop) : Prop :=
 DoX Tryz.prog (mBox 25 t0) w (pk K) fun t1 w =>
 DoX Tryz.prog (mFunc (.func 94) #[] #[t1]) w (pk K) fun t3 w =>
 CallX Tryz.prog 93 #[t3] w (pk K) fun t4 w =>
 K (.returned t4) w
theorem S_value_Check_eq (t0 : Value) (w : World) (K : Ending → World → Prop) : wpX Tryz.prog 5 [] [] none (bodyOf Tryz.f45) (topQ Tryz.prog [.tmp 2] K) (startX [t0]) [] w = S_value_Check t0 w K := by kernel_rfl
theorem S_value_Check_ok {t0 : Value} {w : World} {K : Ending → World → Prop} (h : S_value_Check t0 w K) : Calls Tryz.prog 45 #[t0] w K :=
  calls_of_wpX Tryz.func45 rfl rfl rfl rfl (Eq.mpr (S_value_Check_eq t0 w K) h)

end Go.Proofs.YtiklhhdohckfiaaGreatDoor
/- Contracts: value (within, key, rising, fits, short, used, must, check, Check). -/
namespace Go.Proofs.YtiklhhdohckfiaaGreatDoor
set_option linter.unusedVariables false
set_option linter.unusedSimpArgs false
set_option linter.defProp false
open Eng Go.RowKit
 attribute [local congr] g_congr

theorem within64_ret (n a b : Int) (w : World) : Ret Tryz.prog 205 #[.int .i64 n, .int .i64 a, .int .i64 b] w (fun v w' => v = .bool (decide (a ≤ n) && decide (n ≤ b)) ∧ w = w') := by
  refine ret_of fun K hK => S_value_within_int64_ok ?_
  unfold S_value_within_int64
  simp +contextual only [rs, gs]
  exact hK _ _ ⟨rfl, rfl⟩
theorem withinI_ret (n a b : Int) (w : World) : Ret Tryz.prog 206 #[.int .i64 n, .int .i64 a, .int .i64 b] w (fun v w' => v = .bool (decide (a ≤ n) && decide (n ≤ b)) ∧ w = w') := by
  refine ret_of fun K hK => S_value_within_int_ok ?_
  unfold S_value_within_int
  simp +contextual only [rs, gs]
  exact hK _ _ ⟨rfl, rfl⟩
theorem tw_self {p : UInt8 → Bool} : ∀ (s : List UInt8), s.takeWhile p = s → ∀ x ∈ s, p x = true
  | [], _, x, hx => by cases hx
  | a :: s, h, x, hx => by
    rw [List.takeWhile_cons] at h
    split at h
    · rename_i ha
      injection h with _ h
      rcases List.mem_cons.1 hx with rfl | hx
      · exact ha
      · exact tw_self s h x hx
    · cases h
theorem dw_head {p : UInt8 → Bool} : ∀ (s : List UInt8) {a : UInt8} {t : List UInt8}, s.dropWhile p = a :: t → p a = false
  | [], _, _, h => by cases h
  | b :: s, a, t, h => by
    rw [List.dropWhile_cons] at h
    split at h
    · exact dw_head s h
    · rename_i hb
      injection h with h _
      subst h
      simpa using hb
theorem vkey_ret (s : List UInt8) (w : World) : Ret Tryz.prog 156 #[.string ⟨s.toArray⟩] w (fun v w' => v = .bool (Vl.name s) ∧ w = w') := by
  refine ret_of fun K hK => S_value_key_ok ?_
  unfold S_value_key
  rw [s_len Tryz.underlying9, b_leq]
  by_cases h : (s.length : Int) ≤ 127
  · have hi : ∀ {K' : Value → World → Prop}, K' (.int .i64 (Lib.indexByte s 0)) w → CallX Tryz.prog 162 #[.string ⟨s.toArray⟩, .int .u8 0] w (pk K) K' := fun hk => c_eq (indexByte_ret s 0 w) hk
    simp only [h, decide_true, rs]
    refine hi ?_
    simp only [rs]
    refine hK _ _ ⟨?_, rfl⟩
    rw [Vl.name, decide_eq_true (show s.length ≤ 127 by omega), Bool.true_and]
    congr 1
    rw [decide_eq_decide]
    rcases ix_cases 0 s with ⟨h1, h2, h3⟩ | ⟨i, h1, hil, h3, h4⟩
    · rw [h1]
      refine ⟨fun _ hm => ?_, fun _ => by decide⟩
      have := tw_self s h2 0 hm
      simp at this
    · rw [h1]
      refine ⟨fun h => by omega, fun hm => absurd ?_ hm⟩
      have hd : s.drop i = s[i] :: s.drop (i + 1) := List.drop_eq_getElem_cons hil
      have h0 : s[i] = 0 := by
        have := dw_head s (h4.trans hd)
        simpa using this
      exact h0 ▸ List.getElem_mem hil
  · simp only [h, decide_false, rs, g_un]
    refine hK _ _ ⟨?_, rfl⟩
    rw [Vl.name, decide_eq_false (show ¬ s.length ≤ 127 by omega)]; rfl
theorem vrising_ret (o : Ob) (v : Value) (w : World) (h : OV (InW w) w v o) (hb : o.keys.length ≤ 9223372036854775807) :
    Ret Tryz.prog 157 #[v] w (fun v w' => v = .bool (Vl.rising o) ∧ Below w.heap.size w w') := by
  obtain ⟨vk, vc, cs, rfl, ha⟩ := h.open
  refine ret_of fun K hK => S_value_rising_ok ?_
  unfold S_value_rising
  refine o_obb o ha.keys.one ha.kids.one (Own.start w) fun b w1 ho => ?_
  have lk : ∀ {W : World} {L : List Ent}, Own w W L → ∀ {PK : List PanicEntry → World → Prop} {K : Value → World → Prop}, DoX Tryz.prog (mB .len #[22] 3 #[false] #[vk]) W PK K = K (.int .i64 (o.keys.length : Int)) W := fun ho => sl_len Tryz.underlying22 (ha.own ho).keys.1
  have lc : ∀ {W : World} {L : List Ent}, Own w W L → ∀ {PK : List PanicEntry → World → Prop} {K : Value → World → Prop}, DoX Tryz.prog (mB .len #[23] 3 #[false] #[vc]) W PK K = K (.int .i64 (o.kids.length : Int)) W := fun ho => sl_len Tryz.underlying23 (ha.own ho).kids.1
  simp only [rs, fa_o4, fa_o5, ob_keys ho 0 rfl, ob_kids ho 0 rfl, lk ho, lc ho]
  by_cases hlen : (o.keys.length : Int) ≠ (o.kids.length : Int)
  · simp only [decide_eq_true hlen, i_t]
    refine hK _ _ ⟨?_, ho.done⟩
    have : ¬ o.keys.length = o.kids.length := fun e => hlen (by rw [e])
    simp [Vl.rising, this]
  have hle : o.keys.length = o.kids.length := by omega
  simp only [decide_eq_false hlen, i_f]
  have hR : Vl.rising o = (List.range o.keys.length).all (Vl.keyAt o) := by simp [Vl.rising, hle]
  rw [hR] at hK
  refine loop (fun vs w' => ∃ (i : Nat), vs = [.int .i64 i] ∧ i ≤ o.keys.length ∧ (List.range i).all (Vl.keyAt o) = true ∧ Own w w' [obE b o vk vc]) (fun vs _ => o.keys.length - n0 vs) ⟨0, rfl, by omega, by simp, ho⟩ ?_
  rintro vs w2 ⟨i, rfl, hi, hall, ho⟩ _
  simp only [S_value_rising_0, gd, rs]
  by_cases hlt : (i : Int) < (o.keys.length : Int)
  · have hi' : i < o.keys.length := by omega
    simp only [hlt, decide_true, i_t]
    have ho2 := ha.own ho
    refine sl_ia1 (.string ⟨(o.keys[i]).toArray⟩) Tryz.underlying22 (by kernel_rfl) ho2.keys.1 (by omega) (by rw [Int.toNat_natCast]; exact strsV_get hi') fun q hq => ?_
    rw [l_cell nStr5 hq]
    refine c_eq (vkey_ret o.keys[i] w2) ?_
    obtain ⟨kb, koff, hia, hkc⟩ := run_kid_k ho2.kids.1 ho2.all (show i < o.kids.length by omega)
    have hlk : ∀ {PK : List PanicEntry → World → Prop} {K : Value → World → Prop}, DoX Tryz.prog (mLoad 3 (.pointer (some ⟨kb, koff, none⟩))) w2 PK K = K (.int .i64 o.kids[i].k) w2 := l_cell nInt5 hkc
    have hprev : decide (0 < (i : Int)) = true → ∃ (b' off' : Nat), (∀ {PK : List PanicEntry → World → Prop} {K : Value → World → Prop}, DoX Tryz.prog (mIA 22 vk (.int .i64 (IntKind.wrap .i64 ((i : Int) - 1)))) w2 PK K = K (.pointer (some ⟨b', off', none⟩)) w2) ∧
        (∀ {PK : List PanicEntry → World → Prop} {K : Value → World → Prop}, DoX Tryz.prog (mLoad 9 (.pointer (some ⟨b', off', none⟩))) w2 PK K = K (.string ⟨(o.keys.getD (i - 1) []).toArray⟩) w2) := by
      intro h
      have h := of_decide_eq_true h
      have hj : i - 1 < o.keys.length := by omega
      obtain ⟨b', off', cap', rfl, hc'⟩ := sl_open ho2.keys.1 (show 0 < o.keys.length by omega)
      refine ⟨b', off' + (i - 1), ?_, ?_⟩
      · intro PK K
        rw [wrap64_id (by omega) (by omega)]
        refine do_eq ?_
        rw [run_ia Tryz.underlying22 (show _ = some 1 by kernel_rfl) (by omega) (by omega), show ((i : Int) - 1).toNat * 1 = i - 1 by omega]
      · intro PK K
        rw [List.getD_eq_getElem?_getD, List.getElem?_eq_getElem hj]
        exact l_cell nStr5 (hc' _ _ (strsV_get hj))
    have hgi : o.keys.getD i [] = o.keys[i] := by rw [List.getD_eq_getElem?_getD, List.getElem?_eq_getElem hi']; rfl
    have hgk : o.kids.getD i (.mk 0 0 0 [] [] []) = o.kids[i]'(by omega) := by rw [List.getD_eq_getElem?_getD, List.getElem?_eq_getElem (by omega)]; rfl
    have tail : ∀ (q : Bool) (N : Prop), q = !(Vl.keyAt o i) → (Vl.keyAt o i = true → N) → IfX (.bool q) (K (.returned (.bool false)) w2) N := by
      intro q N hq hN
      cases hk : Vl.keyAt o i with
      | false =>
        rw [hk] at hq; subst hq
        rw [show (!false) = true from rfl, i_t]
        exact hK _ _ ⟨by rw [range_all_not hk hi'], ho.done⟩
      | true =>
        rw [hk] at hq; subst hq
        rw [show (!true) = false from rfl, i_f]
        exact hN hk
    have hki : Vl.keyAt o i = (Vl.name o.keys[i] && (decide (i = 0) || Vl.less (o.keys.getD (i - 1) []) o.keys[i]) && !(decide (o.k = 9) && decide (o.keys[i] = Vl.lenK)) && decide ((o.kids[i]'(by omega)).k ≠ 0)) := by
      rw [Vl.keyAt, hgi, hgk]
    by_cases hi0 : i = 0
    · have hz : decide (0 < (i : Int)) = false := by rw [decide_eq_false_iff_not]; omega
      simp +contextual only [rs, gs, hz, sel_sel, g_off, pick_orn, Bool.and_false, Bool.not_not, Bool.or_false, fa_o0, fa_o5, ob_k ho 0 rfl, ob_kids ho 0 rfl, hia, hlk, g_un, p_f]
      refine tail _ _ ?_ fun hk => ?_
      · rw [hki, decide_eq_true hi0]
        simp only [Bool.true_or, Bool.and_true, Vl.lenK, ne_eq, decide_not]
        generalize Vl.name o.keys[i] = a
        generalize decide (o.k = 9) = c
        generalize decide ((o.kids[i]'(by omega)).k = 0) = d
        by_cases hL : o.keys[i] = [76, 101, 110, 103, 116, 104] <;> simp only [hL, decide_true, decide_false] <;> cases a <;> cases c <;> cases d <;> rfl
      · rw [wrap64_id (by omega) (by omega)]
        exact nextX ⟨i + 1, rfl, by omega, by rw [range_all_succ, hall, hk]; rfl, ho⟩ (by simp [n0, intOf]; omega)
    · have hz : decide (0 < (i : Int)) = true := by rw [decide_eq_true_iff]; omega
      obtain ⟨b', off', hpa, hpl⟩ := hprev hz
      simp +contextual only [rs, gs, hz, sel_sel, g_off, pick_orn, Bool.and_false, Bool.not_not, Bool.or_false, fa_o0, fa_o4, fa_o5, ob_k ho 0 rfl, ob_keys ho 0 rfl, ob_kids ho 0 rfl, hia, hlk, hpa, hpl, g_un]
      refine tail _ _ ?_ fun hk => ?_
      · rw [hki, decide_eq_false hi0]
        simp only [Bool.false_or, Vl.lenK, ne_eq, decide_not]
        generalize Vl.name o.keys[i] = a
        generalize decide (o.k = 9) = c
        generalize decide ((o.kids[i]'(by omega)).k = 0) = d
        show _ = !(_ && Op.bytesLess (o.keys.getD (i - 1) []) o.keys[i] && _ && _)
        generalize Op.bytesLess (o.keys.getD (i - 1) []) o.keys[i] = e
        by_cases hL : o.keys[i] = [76, 101, 110, 103, 116, 104] <;> simp only [hL, decide_true, decide_false] <;> cases a <;> cases c <;> cases d <;> cases e <;> rfl
      · rw [wrap64_id (by omega) (by omega)]
        exact nextX ⟨i + 1, rfl, by omega, by rw [range_all_succ, hall, hk]; rfl, ho⟩ (by simp [n0, intOf]; omega)
  · simp only [hlt, decide_false, i_f]
    refine hK _ _ ⟨?_, ho.done⟩
    rw [show o.keys.length = i by omega, hall]
theorem vfits_ret (o : Ob) (v : Value) (w : World) (h : OV (InW w) w v o) : Ret Tryz.prog 154 #[v] w (fun v w' => v = .bool (Vl.fits o) ∧ Below w.heap.size w w') := by
  obtain ⟨vk, vc, cs, rfl, ha⟩ := h.open
  refine ret_of fun K hK => S_value_fits_ok ?_
  unfold S_value_fits
  refine o_obb o ha.keys.one ha.kids.one (Own.start w) fun b w1 ho => ?_
  simp only [fa_o0, ob_k ho 0 rfl, rs]
  by_cases k1 : o.k = 1
  · simp only [k1, decide_true, i_t, fa_o1, ob_n ho 0 rfl]
    refine c_eq (within64_ret _ _ _ w1) (hK _ _ ⟨?_, ho.done⟩)
    rw [Vl.fits, if_pos k1, Bool.decide_and]
  by_cases k2 : o.k = 2
  · simp only [k2, Int.reduceEq, decide_true, decide_false, i_t, i_f, fa_o1, ob_n ho 0 rfl]
    refine c_eq (within64_ret _ _ _ w1) (hK _ _ ⟨?_, ho.done⟩)
    rw [Vl.fits, if_neg k1, if_pos k2, Bool.decide_and]
  by_cases k3 : o.k = 3
  · simp only [k3, Int.reduceEq, decide_true, decide_false, i_t, i_f, fa_o1, ob_n ho 0 rfl]
    refine c_eq (within64_ret _ _ _ w1) (hK _ _ ⟨?_, ho.done⟩)
    rw [Vl.fits, if_neg k1, if_neg k2, if_pos k3, Bool.decide_and]
  by_cases k8 : o.k = 8
  · simp only [k8, Int.reduceEq, decide_true, decide_false, i_t, i_f, fa_o1, ob_n ho 0 rfl]
    refine c_eq (within64_ret _ _ _ w1) ?_
    have hf : Vl.fits o = (decide (1 ≤ o.n) && decide (o.n ≤ 8191) && (decide (0 ≤ o.g) && decide (o.g ≤ 65535))) := by
      rw [Vl.fits, if_neg k1, if_neg k2, if_neg k3, if_pos k8, Bool.decide_and, Bool.decide_and]
    rw [hf] at hK
    cases hc : (decide (1 ≤ o.n) && decide (o.n ≤ 8191)) with
    | false =>
      rw [hc] at hK
      rw [g_ft, g_ft, g_ft, p_f]
      exact hK _ _ ⟨rfl, ho.done⟩
    | true =>
      rw [hc] at hK
      rw [g_tt, fa_o2, g_tt, ob_g ho 0 rfl, g_tt]
      refine c_eq (withinI_ret _ _ _ w1) ?_
      rw [p_t]
      exact hK _ _ ⟨rfl, ho.done⟩
  simp only [k1, k2, k3, k8, decide_false, i_f]
  refine hK _ _ ⟨?_, ho.done⟩
  rw [Vl.fits, if_neg k1, if_neg k2, if_neg k3, if_neg k8]
def vShort (o : Ob) : Bool := if o.k = 4 then decide (o.s.length ≤ 32767) else if o.k = 5 then decide (o.s.length ≤ 127) else decide (o.s.length ≤ 1048576)
theorem vshort_ret (o : Ob) (v : Value) (w : World) (h : OV (InW w) w v o) : Ret Tryz.prog 155 #[v] w (fun v w' => v = .bool (vShort o) ∧ Below w.heap.size w w') := by
  obtain ⟨vk, vc, cs, rfl, ha⟩ := h.open
  refine ret_of fun K hK => S_value_short_ok ?_
  unfold S_value_short
  refine o_obb o ha.keys.one ha.kids.one (Own.start w) fun b w1 ho => ?_
  simp only [fa_o0, ob_k ho 0 rfl, rs]
  have hi : ∀ m : Nat, decide ((o.s.length : Int) ≤ (m : Int)) = decide (o.s.length ≤ m) := fun m => by rw [decide_eq_decide]; omega
  by_cases k4 : o.k = 4
  · simp only [k4, decide_true, i_t, fa_o3, ob_s ho 0 rfl, s_len Tryz.underlying9, rs]
    refine hK _ _ ⟨?_, ho.done⟩
    rw [vShort, if_pos k4, ← hi]; rfl
  by_cases k5 : o.k = 5
  · simp only [k5, Int.reduceEq, decide_true, decide_false, i_t, i_f, fa_o3, ob_s ho 0 rfl, s_len Tryz.underlying9, rs]
    refine hK _ _ ⟨?_, ho.done⟩
    rw [vShort, if_neg k4, if_pos k5, ← hi]; rfl
  simp only [k4, k5, decide_false, i_f, fa_o3, ob_s ho 0 rfl, s_len Tryz.underlying9, rs]
  refine hK _ _ ⟨?_, ho.done⟩
  rw [vShort, if_neg k4, if_neg k5, ← hi]; rfl
theorem short_long {o : Ob} (h : Vl.usesOk o = true) : vShort o = !decide (Vl.long o.k < o.s.length) := by
  have key : ∀ m : Nat, decide (o.s.length ≤ m) = !decide (m < o.s.length) := fun m => by
    rw [Bool.eq_iff_iff]; simp
  unfold vShort Vl.long
  by_cases k4 : o.k = 4
  · rw [if_pos k4, if_neg (by omega), if_neg (by omega), key]
  by_cases k5 : o.k = 5
  · rw [if_neg k4, if_pos k5, if_pos k5, key]
  by_cases k9 : o.k = 9
  · rw [if_neg k4, if_neg k5, if_neg k5, if_pos k9, key]
  have hs : o.s = [] := by
    unfold Vl.usesOk Vl.used at h
    revert h
    split
    · intro h; cases h
    · rename_i n g s ks cs he
      intro h
      simp only [Bool.and_eq_true, Bool.or_eq_true, decide_eq_true_eq] at h
      have hsf : s = false := by
        revert he
        repeat' split
        all_goals (intro he; first | (cases he; done) | skip)
        all_goals (simp only [Option.some.injEq, Prod.mk.injEq] at he; first | exact he.2.2.1.symm | omega)
      rcases h.1.1.2 with h1 | h1
      · rw [hsf] at h1; cases h1
      · exact h1
  rw [if_neg k4, if_neg k5, if_neg k5, if_neg k9, hs]; rfl
end Go.Proofs.YtiklhhdohckfiaaGreatDoor
/- Contracts: value (used, must, check, caught, Check). -/
namespace Go.Proofs.YtiklhhdohckfiaaGreatDoor
set_option linter.unusedVariables false
set_option linter.unusedSimpArgs false
set_option linter.defProp false
open Eng Go.RowKit
 attribute [local congr] g_congr

def uC (u : Bool × Bool × Bool × Bool × Bool) : List Value := [.bool u.1, .bool u.2.1, .bool u.2.2.1, .bool u.2.2.2.1, .bool u.2.2.2.2]
def uV (u : Bool × Bool × Bool × Bool × Bool) : Value := .agg (uC u).toArray
def uE (b : Nat) (u : Bool × Bool × Bool × Bool × Bool) : Ent := .cells b (uC u) 159
def u0 : Bool × Bool × Bool × Bool × Bool := (false, false, false, false, false)
theorem aggU : aggN Tryz.prog 159 = some 5 := by kernel_rfl
theorem szU : (Tryz.prog.info? 159).map (·.size) = some 5 := by kernel_rfl
theorem uC_one (u : Bool × Bool × Bool × Bool × Bool) : ∀ v ∈ uC u, v.oneCell' = true := by
  intro v hv
  simp only [uC, List.mem_cons, List.not_mem_nil, or_false] at hv
  rcases hv with rfl | rfl | rfl | rfl | rfl <;> rfl
theorem nBool : notAgg Tryz.prog 4 = true := by kernel_rfl
section
variable {w : World} {PK : List PanicEntry → World → Prop} {K : Value → World → Prop} {S : Nat → Prop} {w0 : World} {L : List Ent}
theorem fa_u0 {b : Nat} : DoX Tryz.prog (mFA 159 (.pointer (some ⟨b, 0, none⟩)) 0) w PK K = K (.pointer (some ⟨b, 0, none⟩)) w := f_addr (show fOff Tryz.prog 159 0 = some 0 by kernel_rfl)
theorem fa_u1 {b : Nat} : DoX Tryz.prog (mFA 159 (.pointer (some ⟨b, 0, none⟩)) 1) w PK K = K (.pointer (some ⟨b, 0 + 1, none⟩)) w := f_addr (show fOff Tryz.prog 159 1 = some 1 by kernel_rfl)
theorem fa_u2 {b : Nat} : DoX Tryz.prog (mFA 159 (.pointer (some ⟨b, 0, none⟩)) 2) w PK K = K (.pointer (some ⟨b, 0 + 2, none⟩)) w := f_addr (show fOff Tryz.prog 159 2 = some 2 by kernel_rfl)
theorem fa_u3 {b : Nat} : DoX Tryz.prog (mFA 159 (.pointer (some ⟨b, 0, none⟩)) 3) w PK K = K (.pointer (some ⟨b, 0 + 3, none⟩)) w := f_addr (show fOff Tryz.prog 159 3 = some 3 by kernel_rfl)
theorem fa_u4 {b : Nat} : DoX Tryz.prog (mFA 159 (.pointer (some ⟨b, 0, none⟩)) 4) w PK K = K (.pointer (some ⟨b, 0 + 4, none⟩)) w := f_addr (show fOff Tryz.prog 159 4 = some 4 by kernel_rfl)
theorem u_put (i : Nat) {b : Nat} {u : Bool × Bool × Bool × Bool × Bool} (u' : Bool × Bool × Bool × Bool × Bool) (ho : OwnS S w0 w L) (hi : L[i]? = some (uE b u)) (k : ∀ w', OwnS S w0 w' (L.set i (uE b u')) → K undef w') :
    DoX Tryz.prog (mStore 159 (.pointer (some ⟨b, 0, none⟩)) (uV u')) w PK K := o_put i ho hi (new := uC u') szU (uC_one u') rfl k
end
def usedV (k : Int) : Value := .tuple #[uV ((Vl.used k).getD u0), .bool (Vl.used k).isSome]
theorem vused_ret (k : Int) (w : World) : Ret Tryz.prog 153 #[.int .i64 k] w (fun v w' => v = usedV k ∧ Below w.heap.size w w') := by
  refine ret_of fun K hK => S_value_used_ok ?_
  unfold S_value_used
  refine o_new (fun b => .pointer (some ⟨b, 0, none⟩)) (uC u0) 159 (fun _ => by kernel_rfl) (Own.start w) fun b w1 ho => ?_
  have fin : ∀ (u : Bool × Bool × Bool × Bool × Bool) (ok : Bool), Vl.used k = (if ok then some u else none) → (ok = false → u = u0) → DoX Tryz.prog (mStore 159 (.pointer (some ⟨b, 0, none⟩)) (uV u)) w1 (pk K) fun _ w =>
      RetX Tryz.prog [.cell (.pointer (some ⟨b, 0, none⟩)) 159, .val (.bool ok)] w K := by
    intro u ok hu h0
    refine u_put 0 u ho rfl fun w2 ho => ?_
    refine ret_v2 (rv_cell (ho.agg 0 rfl aggU)) rv_val (hK _ _ ⟨?_, ho.done⟩)
    rw [usedV, hu]
    cases ok with
    | true => rfl
    | false => rw [h0 rfl]; rfl
  have b0 : ∀ {PK : List PanicEntry → World → Prop} {K : Value → World → Prop}, DoX Tryz.prog (mBuild 159 #[]) w1 PK K = K (uV u0) w1 := do_eq (by kernel_rfl)
  have b1 : ∀ {PK : List PanicEntry → World → Prop} {K : Value → World → Prop}, DoX Tryz.prog (mBuild 159 #[(0, .bool true)]) w1 PK K = K (uV (true, false, false, false, false)) w1 := do_eq (by kernel_rfl)
  have b2 : ∀ {PK : List PanicEntry → World → Prop} {K : Value → World → Prop}, DoX Tryz.prog (mBuild 159 #[(2, .bool true)]) w1 PK K = K (uV (false, false, true, false, false)) w1 := do_eq (by kernel_rfl)
  have b3 : ∀ {PK : List PanicEntry → World → Prop} {K : Value → World → Prop}, DoX Tryz.prog (mBuild 159 #[(4, .bool true)]) w1 PK K = K (uV (false, false, false, false, true)) w1 := do_eq (by kernel_rfl)
  have b4 : ∀ {PK : List PanicEntry → World → Prop} {K : Value → World → Prop}, DoX Tryz.prog (mBuild 159 #[(3, .bool true), (4, .bool true)]) w1 PK K = K (uV (false, false, false, true, true)) w1 := do_eq (by kernel_rfl)
  have b5 : ∀ {PK : List PanicEntry → World → Prop} {K : Value → World → Prop}, DoX Tryz.prog (mBuild 159 #[(0, .bool true), (1, .bool true)]) w1 PK K = K (uV (true, true, false, false, false)) w1 := do_eq (by kernel_rfl)
  have b6 : ∀ {PK : List PanicEntry → World → Prop} {K : Value → World → Prop}, DoX Tryz.prog (mBuild 159 #[(2, .bool true), (3, .bool true), (4, .bool true)]) w1 PK K = K (uV (false, false, true, true, true)) w1 := do_eq (by kernel_rfl)
  simp only [rs]
  by_cases k0 : k = 0
  · simp only [k0, decide_true, i_t, b0]
    exact fin _ true (by simp [Vl.used, k0, u0]) (by simp)
  simp only [k0, decide_false, i_f]
  refine join fun J hJ => ?_
  by_cases k123 : k = 1 ∨ k = 2 ∨ k = 3
  · have : J [.bool true] w1 := by
      refine hJ _ _ fun _ => ?_
      simp only [S_value_used_0, gd, i_t, b1]
      exact fin _ true (by simp [Vl.used, k0, k123]) (by simp)
    by_cases k1 : k = 1
    · simp only [k1, decide_true, i_t]; exact this
    by_cases k2 : k = 2
    · simp only [k2, Int.reduceEq, decide_true, decide_false, i_t, i_f]; exact this
    have k3 : k = 3 := by omega
    simp only [k3, Int.reduceEq, decide_true, decide_false, i_t, i_f]; exact this
  have k1 : ¬ k = 1 := fun h => k123 (.inl h)
  have k2 : ¬ k = 2 := fun h => k123 (.inr (.inl h))
  have k3 : ¬ k = 3 := fun h => k123 (.inr (.inr h))
  simp only [k1, k2, k3, decide_false, i_f]
  refine hJ _ _ fun _ => ?_
  clear hJ
  simp only [S_value_used_0, gd, i_f, rs]
  refine join fun J hJ => ?_
  by_cases k45 : k = 4 ∨ k = 5
  · have : J [.bool true] w1 := by
      refine hJ _ _ fun _ => ?_
      simp only [S_value_used_1, gd, i_t, b2]
      exact fin _ true (by simp [Vl.used, k0, k1, k2, k3, k45]) (by simp)
    by_cases k4 : k = 4
    · simp only [k4, decide_true, i_t]; exact this
    have k5 : k = 5 := by omega
    simp only [k5, Int.reduceEq, decide_true, decide_false, i_t, i_f]; exact this
  have k4 : ¬ k = 4 := fun h => k45 (.inl h)
  have k5 : ¬ k = 5 := fun h => k45 (.inr h)
  simp only [k4, k5, decide_false, i_f]
  refine hJ _ _ fun _ => ?_
  clear hJ
  simp only [S_value_used_1, gd, i_f, rs]
  by_cases k6 : k = 6
  · simp only [k6, decide_true, i_t, b3]
    exact fin _ true (by simp [Vl.used, k6]) (by simp)
  by_cases k7 : k = 7
  · simp only [k7, Int.reduceEq, decide_true, decide_false, i_t, i_f, b4]
    exact fin _ true (by simp [Vl.used, k7]) (by simp)
  by_cases k8 : k = 8
  · simp only [k8, Int.reduceEq, decide_true, decide_false, i_t, i_f, b5]
    exact fin _ true (by simp [Vl.used, k8]) (by simp)
  by_cases k9 : k = 9
  · simp only [k9, Int.reduceEq, decide_true, decide_false, i_t, i_f, b6]
    exact fin _ true (by simp [Vl.used, k9]) (by simp)
  simp only [k6, k7, k8, k9, decide_false, i_f, b0]
  exact fin _ false (by simp [Vl.used, k0, k123, k45, k6, k7, k8, k9]) (by simp)
theorem used_keys {k : Int} {n g s ks cs : Bool} (h : Vl.used k = some (n, g, s, ks, cs)) : ks = decide (k = 7 ∨ k = 9) := by
  revert h
  unfold Vl.used
  repeat' split
  all_goals (intro h; first | (cases h; done) | skip)
  all_goals simp only [Option.some.injEq, Prod.mk.injEq] at h
  all_goals rw [← h.2.2.2.1]
  all_goals symm
  all_goals first | (rw [decide_eq_false_iff_not]; omega) | (rw [decide_eq_true_iff]; omega)
abbrev badE (e : Int) : PanicEntry := { v := .iface 156 (.agg #[.int .i64 e]), recovered := false }
/-- must(q, e). -/
theorem c_must {q r : Bool} {e : Int} {w : World} {PK : List PanicEntry → World → Prop} {K : Value → World → Prop} (h : q = r) (hok : r = true → K (.tuple #[]) w) (hbad : r = false → PK [badE e] w) : CallX Tryz.prog 152 #[.bool q, .int .i64 e] w PK K := by
  subst h
  refine c_any (S_value_must_ok (K := fun e' w' => (q = true → e' = .returned (.tuple #[]) ∧ w' = w) ∧ (q = false → e' = .panicked [badE e] ∧ w' = w)) ?_) ?_
  · unfold S_value_must
    cases q with
    | true =>
      rw [u_not, show (!true) = false from rfl, i_f]
      exact ⟨fun _ => ⟨rfl, rfl⟩, fun h => by cases h⟩
    | false =>
      rw [u_not, show (!false) = true from rfl, i_t]
      have hb : ∀ {PK : List PanicEntry → World → Prop} {K : Value → World → Prop}, DoX Tryz.prog (mBuild 156 #[(0, .int .i64 e)]) w PK K = K (.agg #[.int .i64 e]) w := do_eq (by kernel_rfl)
      rw [hb, m_iface (show notIface Tryz.prog 156 = true by kernel_rfl), m_panic]
      exact ⟨fun h => (by cases h), fun _ => ⟨rfl, rfl⟩⟩
  · rintro e' w' ⟨h1, h2⟩
    cases q with
    | true => obtain ⟨rfl, rfl⟩ := h1 rfl; exact hok rfl
    | false => obtain ⟨rfl, rfl⟩ := h2 rfl; exact hbad rfl
end Go.Proofs.YtiklhhdohckfiaaGreatDoor
/- Contracts: value (check, Check). -/
namespace Go.Proofs.YtiklhhdohckfiaaGreatDoor
set_option linter.unusedVariables false
set_option linter.unusedSimpArgs false
set_option linter.defProp false
open Eng Go.RowKit
 attribute [local congr] g_congr

theorem vcheck_any (n : Nat) : ∀ (o : Ob) (v : Value) (d : Nat) (w : World) (K : Ending → World → Prop), o.wt ≤ n → OV (InW w) w v o → o.wt ≤ 4611686018427387904 → 1 ≤ d → d ≤ 1000 →
    (Vl.check d o = 0 → ∀ w', Below w.heap.size w w' → K (.returned (.tuple #[])) w') → (Vl.check d o ≠ 0 → ∀ w', Below w.heap.size w w' → K (.panicked [badE (Vl.check d o)]) w') →
    Calls Tryz.prog 95 #[v, .int .i64 (d : Int)] w K := by
  induction n with
  | zero => intro o v d w K h; have := o.wt_pos; omega
  | succ n ih =>
  intro o v d w K hn hov hb hd1 hd hok hbad
  obtain ⟨vk, vc, cs, rfl, ha⟩ := hov.open
  refine S_value_check_ok ?_
  unfold S_value_check
  refine o_obb o ha.keys.one ha.kids.one (Own.start w) fun b w1 ho => ?_
  have out : ∀ (e : Int) (W : World) (L : List Ent), Own w W L → Vl.why d o = e → e ≠ 0 → (pk K) [badE e] W := by
    intro e W L ho h1 h2
    have h3 : Vl.check d o = e := by rw [why_pos (by rw [h1]; exact h2), h1]
    rw [h3] at hbad
    exact hbad h2 W ho.done
  rw [b_leq]
  refine c_must (r := decide (d ≤ 24)) (by rw [decide_eq_decide]; omega) (fun h24 => ?_) fun h24 => out 7 w1 _ ho (by rw [Vl.why, if_pos (by have := of_decide_eq_false h24; omega)]) (by decide)
  have h24' : ¬ 24 < d := by have := of_decide_eq_true h24; omega
  rw [fa_o0, ob_k ho 0 rfl]
  refine c_told (vused_ret o.k w1) rfl ho fun w2 ho => ?_
  simp only [usedV, ex]
  refine o_new (fun b => .pointer (some ⟨b, 0, none⟩)) (uC u0) 159 (fun _ => by kernel_rfl) ho fun b4 w3 ho => ?_
  refine u_put 0 ((Vl.used o.k).getD u0) ho rfl fun w4 ho => ?_
  have ho : Own w w4 [uE b4 ((Vl.used o.k).getD u0), obE b o vk vc] := ho
  have bad10 : (Vl.usesOk o = false ∨ (o.k = 9 ∧ 1 < d)) → (pk K) [badE 10] w4 := fun h => out 10 w4 _ ho (by rw [Vl.why, if_neg h24', if_pos h]) (by decide)
  have lk : ∀ {W : World} {L : List Ent}, Own w W L → ∀ {PK : List PanicEntry → World → Prop} {K : Value → World → Prop}, DoX Tryz.prog (mB .len #[22] 3 #[false] #[vk]) W PK K = K (.int .i64 (o.keys.length : Int)) W := fun ho => sl_len Tryz.underlying22 (ha.own ho).keys.1
  have lc : ∀ {W : World} {L : List Ent}, Own w W L → ∀ {PK : List PanicEntry → World → Prop} {K : Value → World → Prop}, DoX Tryz.prog (mB .len #[23] 3 #[false] #[vc]) W PK K = K (.int .i64 (o.kids.length : Int)) W := fun ho => sl_len Tryz.underlying23 (ha.own ho).kids.1
  cases hu : Vl.used o.k with
  | none =>
    have hb10 := bad10 (.inl (by rw [Vl.usesOk, hu]))
    simp only [Option.isSome_none, rs, g_un]
    exact c_must (r := false) rfl (fun h => by cases h) fun _ => hb10
  | some u =>
  obtain ⟨un, ug, us, uks, ucs⟩ := u
  rw [hu, Option.getD_some] at ho
  have hUo : Vl.usesOk o = ((un || decide (o.n = 0)) && (ug || decide (o.g = 0)) && (us || decide (o.s = [])) && (uks || decide (o.keys = [])) && (ucs || decide (o.kids.length = 0))) := by rw [Vl.usesOk, hu]
  have l0 : ∀ {PK : List PanicEntry → World → Prop} {K : Value → World → Prop}, DoX Tryz.prog (mLoad 4 (.pointer (some ⟨b4, 0, none⟩))) w4 PK K = K (.bool un) w4 := l_cell nBool (ho.cell 0 rfl 0 rfl)
  have l1 : ∀ {PK : List PanicEntry → World → Prop} {K : Value → World → Prop}, DoX Tryz.prog (mLoad 4 (.pointer (some ⟨b4, 0 + 1, none⟩))) w4 PK K = K (.bool ug) w4 := l_cell nBool (ho.cell 0 rfl 1 rfl)
  have l2 : ∀ {PK : List PanicEntry → World → Prop} {K : Value → World → Prop}, DoX Tryz.prog (mLoad 4 (.pointer (some ⟨b4, 0 + 2, none⟩))) w4 PK K = K (.bool us) w4 := l_cell nBool (ho.cell 0 rfl 2 rfl)
  have l3 : ∀ {W : World} {L : List Ent}, Own w W (uE b4 (un, ug, us, uks, ucs) :: L) → ∀ {PK : List PanicEntry → World → Prop} {K : Value → World → Prop}, DoX Tryz.prog (mLoad 4 (.pointer (some ⟨b4, 0 + 3, none⟩))) W PK K = K (.bool uks) W := fun ho => l_cell nBool (ho.cell 0 rfl 3 rfl)
  have l4 : ∀ {PK : List PanicEntry → World → Prop} {K : Value → World → Prop}, DoX Tryz.prog (mLoad 4 (.pointer (some ⟨b4, 0 + 4, none⟩))) w4 PK K = K (.bool ucs) w4 := l_cell nBool (ho.cell 0 rfl 4 rfl)
  simp +contextual only [Option.isSome_some, rs, gs, sel_sel, g_off, pick_orn, Bool.and_false, Bool.not_not, Bool.or_false, fa_u0, fa_u1, fa_u2, fa_u3, fa_u4, l0, l1, l2, l3 ho, l4, fa_o0, fa_o1, fa_o2, fa_o3, fa_o4, fa_o5, ob_k ho 1 rfl, ob_n ho 1 rfl, ob_g ho 1 rfl, ob_s ho 1 rfl, ob_keys ho 1 rfl, ob_kids ho 1 rfl, lk ho, lc ho, e_nil]
  refine c_must (r := Vl.usesOk o && !(decide (o.k = 9) && decide (1 < d))) ?_ (fun hq => ?_) fun hq => ?_
  · rw [hUo, ilen0 o.keys, ilenN o.kids]
    congr 1
    by_cases h9 : o.k = 9
    · simp only [h9, ne_eq, not_true, decide_false, Bool.or_false, decide_true, Bool.true_and]
      rw [Bool.eq_iff_iff]; simp; omega
    · simp only [h9, ne_eq, not_false_eq_true, decide_true, Bool.or_true, decide_false, Bool.false_and, Bool.not_false]
  rotate_left
  · refine bad10 ?_
    rw [Bool.and_eq_false_iff] at hq
    rcases hq with h | h
    · exact .inl h
    · right
      have : (decide (o.k = 9) && decide (1 < d)) = true := by simpa using h
      rw [Bool.and_eq_true] at this
      exact ⟨of_decide_eq_true this.1, of_decide_eq_true this.2⟩
  rw [Bool.and_eq_true] at hq
  obtain ⟨huo, hq9⟩ := hq
  have hno : ¬ (Vl.usesOk o = false ∨ (o.k = 9 ∧ 1 < d)) := by
    rintro (h | ⟨h1, h2⟩)
    · rw [huo] at h; cases h
    · rw [decide_eq_true h1, decide_eq_true h2] at hq9; cases hq9
  rw [ob_v ho 1 rfl]
  refine c_told (vfits_ret o _ w4 (ha.in_ ho).ov) rfl ho fun w5 ho => ?_
  refine c_must (r := Vl.fits o) rfl (fun hfi => ?_) fun hfi => out 2 w5 _ ho (by rw [Vl.why, if_neg h24', if_neg hno, if_pos hfi]) (by decide)
  have hfi' : ¬ Vl.fits o = false := by rw [hfi]; decide
  rw [ob_v ho 1 rfl]
  refine c_told (vshort_ret o _ w5 (ha.in_ ho).ov) rfl ho fun w6 ho => ?_
  refine c_must (r := !decide (Vl.long o.k < o.s.length)) (short_long huo) (fun hlo => ?_) fun hlo => out 5 w6 _ ho (by rw [Vl.why, if_neg h24', if_neg hno, if_neg hfi', if_pos (by simpa using hlo)]) (by decide)
  have hlo' : ¬ Vl.long o.k < o.s.length := by simpa using hlo
  rw [ob_kids ho 1 rfl, lc ho, b_leq]
  refine c_must (r := decide (o.kids.length ≤ 8191)) (by rw [decide_eq_decide]; omega) (fun hm => ?_) fun hm => out 6 w6 _ ho (by rw [Vl.why, if_neg h24', if_neg hno, if_neg hfi', if_neg hlo', if_pos (by have := of_decide_eq_false hm; omega)]) (by decide)
  have hm' : ¬ 8191 < o.kids.length := by have := of_decide_eq_true hm; omega
  rw [ob_k ho 1 rfl, n_int]
  have huk := used_keys hu
  -- behind the form: the kids
  have rest : ∀ (W : World), Vl.form o = true → Own w W [uE b4 (un, ug, us, uks, ucs), obE b o vk vc] →
      DoX Tryz.prog (mLoad 23 (.pointer (some ⟨b, 0 + 5, none⟩))) W (pk K) fun t105 w =>
      DoX Tryz.prog (mB .len #[23] 3 #[false] #[t105]) w (pk K) fun t106 w =>
      LoopX [(.int .i64 0)] w (fun vs1 w N1 => ∀ _ : Sg, S_value_check_0 (.int .i64 (d : Int)) t105 t106 (vs1.getD 0 undef) w N1 K) := by
    intro W hfo ho
    have hw0 : Vl.why d o = 0 := by rw [Vl.why, if_neg h24', if_neg hno, if_neg hfi', if_neg hlo', if_neg hm', if_neg (by rw [hfo]; decide)]
    have hch : Vl.check d o = Vl.checks (d + 1) o.kids := by rw [Vl.check_eq, if_neg (by simp [hw0])]
    rw [hch] at hok hbad
    rw [ob_kids ho 1 rfl, lc ho]
    refine loop (fun vs w' => ∃ (i : Nat), vs = [.int .i64 i] ∧ i ≤ o.kids.length ∧ Vl.checks (d + 1) o.kids = Vl.checks (d + 1) (o.kids.drop i) ∧ Own w w' [uE b4 (un, ug, us, uks, ucs), obE b o vk vc]) (fun vs _ => o.kids.length - n0 vs) ⟨0, rfl, by omega, rfl, ho⟩ ?_
    rintro vs w6 ⟨i, rfl, hi, hT, ho⟩ _
    rw [hT] at hok hbad
    simp only [S_value_check_0, gd, rs]
    by_cases hlt : (i : Int) < (o.kids.length : Int)
    · have hi' : i < o.kids.length := by omega
      simp only [hlt, decide_true, i_t]
      rw [checks_drop _ _ _ hi'] at hok hbad hT
      have hai := ha.own ho
      refine ob_ia hai.kids.1 hai.all hi' fun v hv => ?_
      obtain ⟨vk', vc', cs', rfl, hkid⟩ := hv.open
      have ho6 := ho
      refine o_oba ho fun b7 w7 ho => ?_
      refine ob_put 0 hkid.keys.one hkid.kids.one ho rfl fun w8 ho => ?_
      have ho : Own w w8 [obE b7 o.kids[i] vk' vc', uE b4 (un, ug, us, uks, ucs), obE b o vk vc] := ho
      rw [ob_v ho 0 rfl, wrap64_id (by omega) (by omega), show (d : Int) + 1 = ((d + 1 : Nat) : Int) by omega]
      have hkw := kid_wt hi'
      refine c_any (ih o.kids[i] _ (d + 1) w8 _ (by omega) (hkid.later ho6 ho).ov (by omega) (by omega) (by omega) (fun hc0 w9 hb9 => ?_) (fun hc0 w9 hb9 => ?_)) (fun _ _ h => h)
      · have ho := ho.grow hb9
        rw [if_neg (by simp [hc0])] at hT
        simp only [Cont, rs]
        rw [wrap64_id (by omega) (by omega)]
        exact nextX ⟨i + 1, rfl, by omega, hT, ho.tail⟩ (by simp [n0, intOf]; omega)
      · rw [if_pos hc0] at hbad
        exact hbad hc0 w9 (ho.grow hb9).done
    · simp only [hlt, decide_false, i_f]
      rw [List.drop_of_length_le (by omega), Vl.checks] at hok
      exact hok rfl w6 ho.done
  have bad3 : ∀ (W : World) (L : List Ent), Own w W L → Vl.form o = false → (pk K) [badE 3] W := fun W L ho h => out 3 W _ ho (by rw [Vl.why, if_neg h24', if_neg hno, if_neg hfi', if_neg hlo', if_neg hm', if_pos h]) (by decide)
  by_cases k5 : o.k = 5
  · have k79 : ¬ (o.k = 7 ∨ o.k = 9) := by omega
    have hks : uks = false := by rw [huk, decide_eq_false k79]
    have hf : Vl.form o = Vl.name o.s := by simp [Vl.form, k5]
    rw [show decide (o.k ≠ 5) = false by rw [decide_eq_false_iff_not]; omega, g_ff, ob_s ho 1 rfl, g_ff]
    refine c_eq (vkey_ret o.s w6) ?_
    rw [p_f]
    cases hnm : Vl.name o.s with
    | false =>
      rw [g_ft, g_ft, show sel (wants (Value.bool false) true) undef = undef from rfl, g_un, g_un, g_ft, p_f]
      exact c_must (r := false) rfl (fun h => by cases h) fun _ => bad3 w6 _ ho (by rw [hf, hnm])
    | true =>
      rw [g_tt, l3 ho, hks, g_tt, u_not, show (!false) = true from rfl, show sel (wants (Value.bool true) true) (Value.bool true) = .bool true from rfl, g_tf, g_tf, g_tt, p_t, p_t]
      exact c_must (r := true) rfl (fun _ => rest w6 (by rw [hf, hnm]) ho) fun h => by cases h
  · rw [show decide (o.k ≠ 5) = true by rw [decide_eq_true_iff]; exact k5, g_tf, g_tf, p_t, g_tt, l3 ho, g_tt, u_not]
    cases hks : uks with
    | false =>
      have k79 : ¬ (o.k = 7 ∨ o.k = 9) := by rw [huk, decide_eq_false_iff_not] at hks; exact hks
      rw [show (!false) = true from rfl, show sel (wants (Value.bool true) true) (Value.bool true) = .bool true from rfl, g_tf, g_tf, g_tt, p_t, p_t]
      rw [hks] at ho rest
      exact c_must (r := true) rfl (fun _ => rest w6 (by simp [Vl.form, k5, k79]) ho) fun h => by cases h
    | true =>
      have k79 : o.k = 7 ∨ o.k = 9 := by rw [huk, decide_eq_true_iff] at hks; exact hks
      have hf : Vl.form o = Vl.rising o := by simp [Vl.form, k5, k79]
      rw [show (!true) = false from rfl, show sel (wants (Value.bool true) true) (Value.bool false) = .bool false from rfl, g_ff, ob_v ho 1 rfl, g_ff]
      refine c_told (vrising_ret o _ w6 (ha.in_ ho).ov (by have := key_len (o := o); omega)) rfl ho fun w7 ho => ?_
      rw [g_tt, p_f, p_t]
      rw [hks] at ho rest
      exact c_must (r := Vl.form o) hf.symm (fun hfo => rest w7 hfo ho) fun h => bad3 w7 _ ho h
theorem caught_plain : plainB Tryz.prog 151 = true := by kernel_rfl
theorem leave_fn {rs : List RV} {K : Ending → World → Prop} {f : Nat} {args caps : Array Value} {ds : List Deferred} {u : FrameMode} (hu : u ≠ .run) (hp : plainB Tryz.prog f = true) {w : World}
    (h : CallsD Tryz.prog f (args ++ caps) u w fun
        | .returned _, u', w' => Leave Tryz.prog rs K ds (settle u') w'
        | .panicked chain, u', w' => Leave Tryz.prog rs K ds (raised u' chain) w'
        | .outgrown, _, _ => False) : Leave Tryz.prog rs K ({ target := .fn (.func f) caps, args := args } :: ds) u w :=
  ⟨hu, .func f, caps, f, args ++ caps, rfl, by simpa [invoke] using plain_run hp _ w, h⟩
theorem run_plain : plainB Tryz.prog 94 = true := by kernel_rfl
abbrev nErr5 : notAgg Tryz.prog 28 = true := by kernel_rfl
/-- value.caught, over the closure of value.Check. -/
theorem vCheck_ret (o : Ob) (v : Value) (w : World) (h : OV (InW w) w v o) (hb : o.wt ≤ 4611686018427387904) : Ret Tryz.prog 45 #[v] w (fun v w' => v = .int .i64 (Vl.check 1 o) ∧ Below w.heap.size w w') := by
  refine ret_of fun K hK => S_value_Check_ok ?_
  obtain ⟨vk, vc, cs, rfl, ha⟩ := h.open
  unfold S_value_Check
  refine o_obb o ha.keys.one ha.kids.one (Own.start w) fun b w1 ho => ?_
  rw [m_func]
  refine c_any (S_value_caught_ok (K := fun e w' => e = .returned (.int .i64 (Vl.check 1 o)) ∧ Below w.heap.size w w') ?_) ?_
  rotate_left
  · rintro e w' ⟨rfl, hb'⟩
    exact hK _ _ ⟨rfl, hb'⟩
  unfold S_value_caught
  refine o_new (fun b => .pointer (some ⟨b, 0, none⟩)) [.int .i64 0] 28 (fun _ => by kernel_rfl) ho fun b2 w2 ho => ?_
  rw [m_func]
  refine ⟨_, rfl, ?_⟩
  refine c_val run_plain ?_
  show CallX Tryz.prog _ #[.pointer (some ⟨b, 0, none⟩)] _ _ _
  refine c_any (S_value_Check_1_ok (K := fun e w' => (Vl.check 1 o = 0 → e = .returned (.tuple #[]) ∧ Below w2.heap.size w2 w') ∧ (Vl.check 1 o ≠ 0 → e = .panicked [badE (Vl.check 1 o)] ∧ Below w2.heap.size w2 w')) ?_) ?_
  · unfold S_value_Check_1
    rw [ob_v ho 1 rfl]
    refine c_any (vcheck_any o.wt o _ 1 w2 (fun e w' => (Vl.check 1 o = 0 → e = .returned (.tuple #[]) ∧ Below w2.heap.size w2 w') ∧ (Vl.check 1 o ≠ 0 → e = .panicked [badE (Vl.check 1 o)] ∧ Below w2.heap.size w2 w')) (Nat.le_refl _) (ha.in_ ho).ov hb (by omega) (by omega)
      (fun h0 w' hb' => ⟨fun _ => ⟨rfl, hb'⟩, fun h => absurd h0 h⟩) (fun h0 w' hb' => ⟨fun h => absurd h h0, fun _ => ⟨rfl, hb'⟩⟩)) ?_
    rintro e w' ⟨h1, h2⟩
    by_cases h0 : Vl.check 1 o = 0
    · obtain ⟨rfl, hb'⟩ := h1 h0; exact ⟨fun _ => ⟨rfl, hb'⟩, fun h => absurd h0 h⟩
    · obtain ⟨rfl, hb'⟩ := h2 h0; exact ⟨fun h => absurd h h0, fun _ => ⟨rfl, hb'⟩⟩
  rintro e w' ⟨h1, h2⟩
  by_cases h0 : Vl.check 1 o = 0
  · obtain ⟨rfl, hb'⟩ := h1 h0
    simp only [Cont]
    have ho := ho.grow hb'
    refine o_store 0 ho rfl (by kernel_rfl) rfl (by simp) fun w4 ho => ?_
    refine leave_fn (by simp) caught_plain (S_value_caught_1_dok ?_)
    simp only [S_value_caught_1, recV, recM, Eng.e_nil Tryz.underlying20, rs]
    refine ret_cell1 nErr5 (ho.cell 0 rfl 0 rfl) (And.intro ?_ ho.done)
    rw [h0]
  · obtain ⟨rfl, hb'⟩ := h2 h0
    simp only [Cont, S_value_caught_p0, pd]
    have ho := ho.grow hb'
    refine leave_fn (by simp) caught_plain (S_value_caught_1_dok ?_)
    simp only [S_value_caught_1, recV, recM, Eng.e_some Tryz.underlying20, rs, t_hit (show notIface Tryz.prog 156 = true by kernel_rfl),
      x_ext (show [Value.agg #[.int .i64 (Vl.check 1 o)], Value.bool true][1]? = some (Value.bool true) from rfl), x_ext (show [Value.agg #[.int .i64 (Vl.check 1 o)], Value.bool true][0]? = some (Value.agg #[.int .i64 (Vl.check 1 o)]) from rfl)]
    refine o_new (fun b => .pointer (some ⟨b, 0, none⟩)) [.int .i64 0] 156 (fun _ => by kernel_rfl) ho fun b5 w5 ho => ?_
    refine o_put 0 ho rfl (new := [.int .i64 (Vl.check 1 o)]) (show (Tryz.prog.info? 156).map (·.size) = some 1 by kernel_rfl) (by simp; rfl) rfl fun w6 ho => ?_
    rw [f_addr (show fOff Tryz.prog 156 0 = some 0 by kernel_rfl), l_cell nErr5 (ho.cell 0 rfl 0 rfl)]
    refine o_store 1 ho rfl (by kernel_rfl) rfl (by simp) fun w7 ho => ?_
    exact ret_cell1 nErr5 (ho.cell 1 rfl 0 rfl) (And.intro rfl ho.done)
end Go.Proofs.YtiklhhdohckfiaaGreatDoor
/- Plain mathematics of layer 7: the parts of an object; no program in sight. -/
namespace Go.Proofs.YtiklhhdohckfiaaGreatDoor
set_option linter.unusedVariables false
set_option linter.unusedSimpArgs false
set_option linter.defProp false
open Go
theorem Ob.len_wts : ∀ os : List Ob, os.length ≤ Ob.wts os
  | [] => by simp
  | o :: os => by
    have := Ob.len_wts os
    have : 1 ≤ o.wt := by cases o; rw [Ob.wt]; omega
    rw [Ob.wts, List.length_cons]; omega
theorem Ob.get_wts : ∀ (os : List Ob) (i : Nat) (hi : i < os.length), os[i].wt ≤ Ob.wts os
  | o :: os, 0, _ => by rw [Ob.wts]; show o.wt ≤ _; omega
  | o :: os, i + 1, hi => by
    have := Ob.get_wts os i (by simpa using hi)
    rw [Ob.wts, List.getElem_cons_succ]; omega
  | [], _, hi => by simp at hi
namespace Wr
def num (n : Int) : List UInt8 := (Pl.pInt n).1
def nul : List UInt8 := [110, 117, 108, 108]
def tru : List UInt8 := [116, 114, 117, 101]
def fal : List UInt8 := [102, 97, 108, 115, 101]
/-- An object without nested ones that is no reference. -/
def leaf (k n : Int) (s : List UInt8) : List UInt8 :=
  if k = 1 then (if n = 0 then fal else tru)
  else if k = 2 then num n
  else if k = 3 then (Pl.pReal n).1
  else if k = 4 then (Pl.pStr s).1
  else if k = 5 then (Pl.pName s).1
  else nul
 mutual
def parts : Ob → List (List UInt8)
  | .mk k n g s keys kids =>
    if k = 8 then [num n, num g, [82]]
    else if k = 6 then [91] :: (partsL kids ++ [[93]])
    else if k = 7 then [60, 60] :: (partsD keys kids ++ [[62, 62]])
    else [leaf k n s]
def partsL : List Ob → List (List UInt8)
  | [] => []
  | o :: os => parts o ++ partsL os
def partsD (keys : List (List UInt8)) : List Ob → List (List UInt8)
  | [] => []
  | o :: os => match keys with
    | [] => []
    | key :: ks => (Pl.pName key).1 :: (parts o ++ partsD ks os)
end
theorem parts_eq (o : Ob) : parts o = if o.k = 8 then [num o.n, num o.g, [82]] else if o.k = 6 then [91] :: (partsL o.kids ++ [[93]]) else if o.k = 7 then [60, 60] :: (partsD o.keys o.kids ++ [[62, 62]]) else [leaf o.k o.n o.s] := by
  cases o; rw [parts]; rfl
theorem partsL_app : ∀ (a b : List Ob), partsL (a ++ b) = partsL a ++ partsL b
  | [], b => by simp [partsL]
  | o :: a, b => by rw [List.cons_append, partsL, partsL, partsL_app a b, List.append_assoc]
theorem partsL_succ (os : List Ob) (i : Nat) (h : i < os.length) : partsL (os.take (i + 1)) = partsL (os.take i) ++ parts os[i] := by
  rw [List.take_succ_eq_append_getElem h, partsL_app]; simp [partsL]
theorem partsD_succ : ∀ (ks : List (List UInt8)) (os : List Ob) (i : Nat) (h1 : i < ks.length) (h2 : i < os.length), partsD (ks.take (i + 1)) (os.take (i + 1)) = partsD (ks.take i) (os.take i) ++ (Pl.pName ks[i]).1 :: parts os[i]
  | key :: ks, o :: os, 0, _, _ => by simp [partsD]
  | key :: ks, o :: os, i + 1, h1, h2 => by
    rw [List.take_succ_cons, List.take_succ_cons, partsD, partsD_succ ks os i (by simpa using h1) (by simpa using h2), List.take_succ_cons, List.take_succ_cons, partsD]
    simp
  | [], _, _, h1, _ => by simp at h1
  | _, [], _, _, h2 => by simp at h2
theorem partsD_min : ∀ (ks : List (List UInt8)) (os : List Ob) (i : Nat), ks.length ≤ i ∨ os.length ≤ i → partsD (ks.take i) (os.take i) = partsD ks os
  | _, [], i, _ => by simp [partsD]
  | [], o :: os, i, _ => by
    cases i with
    | zero => simp [partsD]
    | succ i => simp [partsD]
  | key :: ks, o :: os, i, h => by
    cases i with
    | zero => simp at h
    | succ i =>
      rw [List.take_succ_cons, List.take_succ_cons, partsD, partsD, partsD_min ks os i (by simpa using h)]
theorem partsD_nil (os : List Ob) : partsD [] os = [] := by cases os <;> rw [partsD]
theorem partsD_split : ∀ (ks : List (List UInt8)) (os : List Ob) (i : Nat), partsD ks os = partsD (ks.take i) (os.take i) ++ partsD (ks.drop i) (os.drop i)
  | _, _, 0 => by simp [partsD]
  | _, [], i + 1 => by simp [partsD]
  | [], o :: os, i + 1 => by simp [partsD_nil]
  | key :: ks, o :: os, i + 1 => by
    rw [List.take_succ_cons, List.take_succ_cons, List.drop_succ_cons, List.drop_succ_cons, partsD, partsD, partsD_split ks os i]
    simp
theorem partsL_take_len (os : List Ob) (i : Nat) : (partsL (os.take i)).length ≤ (partsL os).length := by
  have e : partsL os = partsL (os.take i) ++ partsL (os.drop i) := by rw [← partsL_app, List.take_append_drop]
  rw [e, List.length_append]; omega
theorem partsD_take_len : ∀ (ks : List (List UInt8)) (os : List Ob) (i : Nat), (partsD (ks.take i) (os.take i)).length ≤ (partsD ks os).length
  | _, [], i => by simp [partsD]
  | [], o :: os, i => by
    cases i with
    | zero => simp [partsD]
    | succ i => simp [partsD]
  | key :: ks, o :: os, i => by
    cases i with
    | zero => simp [partsD]
    | succ i =>
      have := partsD_take_len ks os i
      rw [List.take_succ_cons, List.take_succ_cons, partsD, partsD]
      simp; omega
theorem num_len (n : Int) : (num n).length ≤ 21 := by
  unfold num Pl.pInt
  split
  · exact Lib.itoa_length_le n (by omega) (by omega)
  · simp
theorem real_len (n : Int) : (Pl.pReal n).1.length ≤ 200 := by
  unfold Pl.pReal
  split
  · show (Fx.text n).length ≤ 200
    unfold Fx.text
    have h1 := Fx.row_len (n.natAbs / 10000) 1
    have h2 := Fx.fpart_len n.natAbs
    rw [if_pos (by assumption)]
    have h3 : (if n < 0 then ([45] : List UInt8) else []).length ≤ 1 := by split <;> simp
    simp only [List.length_append, List.length_cons, List.length_nil]; omega
  · simp
theorem str_len (s : List UInt8) : (Pl.pStr s).1.length ≤ 4 * s.length + 2 := by
  unfold Pl.pStr
  split
  · simp
  · have := Pl.flat_len Pl.esc 4 (fun c => (Pl.esc_len c).2) s
    simp [Pl.str]; simp at this; omega
theorem name_len (s : List UInt8) : (Pl.pName s).1.length ≤ 3 * s.length + 1 := by
  unfold Pl.pName
  split
  · simp
  split
  · simp
  · have := Pl.flat_len Pl.nmc 3 (fun c => (Pl.nmc_len c).2) s
    simp [Pl.name]; simp at this; omega
theorem leaf_len (k n : Int) (s : List UInt8) : (leaf k n s).length ≤ 200 + 4 * s.length := by
  unfold leaf
  split
  · split <;> simp [fal, tru] <;> omega
  split
  · have := num_len n; omega
  split
  · have := real_len n; omega
  split
  · have := str_len s; omega
  split
  · have := name_len s; omega
  · simp [nul]; omega
 mutual
theorem parts_len : ∀ o : Ob, (parts o).length + 3 ≤ o.wt
  | .mk k n g s keys kids => by
    have h1 := partsL_len kids
    have h2 := partsD_len keys kids
    have h3 := Ob.wts kids
    rw [parts, Ob.wt]
    split
    · simp; omega
    split
    · simp; omega
    split
    · simp; omega
    · simp; omega
theorem partsL_len : ∀ os : List Ob, (partsL os).length + 3 * os.length ≤ Ob.wts os
  | [] => by simp [partsL]
  | o :: os => by
    have := parts_len o
    have := partsL_len os
    rw [partsL, Ob.wts]; simp; omega
theorem partsD_len (keys : List (List UInt8)) : ∀ os : List Ob, (partsD keys os).length + 2 * os.length ≤ Ob.wts os
  | [] => by simp [partsD]
  | o :: os => by
    have := parts_len o
    cases keys with
    | nil => rw [partsD, Ob.wts]; have := partsD_len [] os; simp; omega
    | cons key ks => have := partsD_len ks os; rw [partsD, Ob.wts]; simp; omega
end
 mutual
theorem parts_tot : ∀ o : Ob, Pl.tot (parts o) ≤ 40 * o.wt
  | .mk k n g s keys kids => by
    have h1 := partsL_tot kids
    have h2 := partsD_tot keys kids
    rw [parts, Ob.wt]
    split
    · have := num_len n; have := num_len g
      simp [Pl.tot]; omega
    split
    · rw [show [91] :: (partsL kids ++ [[93]]) = [[91]] ++ (partsL kids ++ [[93]]) from rfl, Pl.tot_append, Pl.tot_append]; simp [Pl.tot] at *; omega
    split
    · rw [show [60, 60] :: (partsD keys kids ++ [[62, 62]]) = [[60, 60]] ++ (partsD keys kids ++ [[62, 62]]) from rfl, Pl.tot_append, Pl.tot_append]; simp [Pl.tot] at *; omega
    · have := leaf_len k n s
      simp [Pl.tot]; omega
theorem partsL_tot : ∀ os : List Ob, Pl.tot (partsL os) ≤ 40 * Ob.wts os
  | [] => by simp [partsL, Pl.tot]
  | o :: os => by
    have := parts_tot o
    have := partsL_tot os
    rw [partsL, Ob.wts, Pl.tot_append]; omega
theorem partsD_tot (keys : List (List UInt8)) : ∀ os : List Ob, Pl.tot (partsD keys os) ≤ 40 * Ob.wts os + 3 * Pl.tot keys
  | [] => by simp [partsD, Pl.tot]
  | o :: os => by
    have := parts_tot o
    cases keys with
    | nil => simp [partsD, Pl.tot]
    | cons key ks =>
      have := partsD_tot ks os
      have := name_len key
      rw [partsD, Ob.wts, show (Pl.pName key).1 :: (parts o ++ partsD ks os) = [(Pl.pName key).1] ++ (parts o ++ partsD ks os) from rfl, show key :: ks = [key] ++ ks from rfl, Pl.tot_append, Pl.tot_append, Pl.tot_append]
      simp [Pl.tot] at *; omega
end
/-- What Text answers: the text and the error. -/
def text (o : Ob) : List UInt8 × Int := if Vl.check 1 o ≠ 0 then ([], Vl.check 1 o) else if o.k = 9 then ([], 10) else (Pl.join (parts o), 0)
def many : List Ob → List UInt8 × Int
  | [] => ([], 0)
  | o :: os => if (text o).2 ≠ 0 then ([], (text o).2) else if (many os).2 ≠ 0 then ([], (many os).2) else ((text o).1 ++ [10] ++ (many os).1, 0)
def outs (os : List Ob) : List UInt8 := os.flatMap fun o => (text o).1 ++ [10]
theorem outs_snoc (os : List Ob) (o : Ob) : outs (os ++ [o]) = outs os ++ ((text o).1 ++ [10]) := by simp [outs]
theorem outs_succ (os : List Ob) (i : Nat) (h : i < os.length) : outs (os.take (i + 1)) = outs (os.take i) ++ ((text os[i]).1 ++ [10]) := by rw [List.take_succ_eq_append_getElem h, outs_snoc]
theorem text_len (o : Ob) : (text o).1.length ≤ 40 * o.wt := by
  unfold text
  split
  · simp
  split
  · simp
  · have := Pl.join_len (parts o)
    have := parts_tot o
    simp only; omega
theorem outs_len : ∀ os : List Ob, (outs os).length ≤ 41 * Ob.wts os
  | [] => by simp [outs]
  | o :: os => by
    have h1 := outs_len os
    have h2 := text_len o
    have h3 : 1 ≤ o.wt := by cases o; rw [Ob.wt]; omega
    have e : outs (o :: os) = ((text o).1 ++ [10]) ++ outs os := by simp [outs]
    rw [e, Ob.wts]
    simp; omega
theorem outs_take_len (os : List Ob) (i : Nat) : (outs (os.take i)).length ≤ (outs os).length := by
  have e : outs os = outs (os.take i) ++ outs (os.drop i) := by
    unfold outs; rw [← List.flatMap_append, List.take_append_drop]
  rw [e, List.length_append]; omega
theorem many_ok : ∀ os : List Ob, (∀ x ∈ os, (text x).2 = 0) → many os = (outs os, 0)
  | [], _ => by simp [many, outs]
  | o :: os, h => by
    have h1 := h o (by simp)
    have h2 := many_ok os fun x hx => h x (by simp [hx])
    rw [many, if_neg (by simp [h1]), h2, if_neg (by simp)]
    simp [outs]
theorem many_err : ∀ (os : List Ob) (i : Nat) (hi : i < os.length), (∀ x ∈ os.take i, (text x).2 = 0) → (text os[i]).2 ≠ 0 → many os = ([], (text os[i]).2)
  | o :: os, 0, hi, _, h => by
    have h : (text o).2 ≠ 0 := h
    rw [many, if_pos h]; rfl
  | o :: os, i + 1, hi, h0, h => by
    have h1 := h0 o (by simp)
    have h : (text (os[i]'(by simpa using hi))).2 ≠ 0 := h
    have h2 := many_err os i (by simpa using hi) (fun x hx => h0 x (by simp [hx])) h
    rw [many, if_neg (by simp [h1]), h2, if_pos (by exact h)]; rfl
  | [], _, hi, _, _ => by simp at hi
/-- A part of a valid object is valid, and no stream. -/
theorem check_kids {d : Nat} {o : Ob} (h : Vl.check d o = 0) : ∀ x ∈ o.kids, Vl.check (d + 1) x = 0 := by
  rw [Vl.check_eq] at h
  split at h
  · rename_i hw; exact absurd h hw
  · generalize o.kids = os at h ⊢
    induction os with
    | nil => intro x hx; cases hx
    | cons a os ih =>
      rw [Vl.checks] at h
      split at h
      · rename_i hw; exact absurd h hw
      · rename_i hw
        intro x hx
        rcases List.mem_cons.1 hx with rfl | hx
        · exact Classical.not_not.1 hw
        · exact ih h x hx
theorem check_why {d : Nat} {o : Ob} (h : Vl.check d o = 0) : Vl.why d o = 0 := by
  rw [Vl.check_eq] at h
  split at h
  · exact h
  · rename_i hw; exact Classical.not_not.1 hw
end Wr
end Go.Proofs.YtiklhhdohckfiaaGreatDoor
/- Code in continuation form, by program (gen.py): 5 functions. -/
namespace Go.Proofs.YtiklhhdohckfiaaGreatDoor
set_option linter.unusedVariables false
set_option linter.unusedSimpArgs false
set_option linter.defProp false
set_option linter.unusedVariables false
set_option maxRecDepth 20000
open Eng

/- foliantref07.number -/
def S_foliantref07_number (t0 : Value) (w : World) (K : Ending → World → Prop) : Prop :=
 CallX Tryz.prog 107 #[t0] w (pk K) fun t7 w =>
 DoX Tryz.prog (mExt t7 0) w (pk K) fun t8 w =>
 DoX Tryz.prog (mExt t7 1) w (pk K) fun t9 w =>
 K (.returned t8) w
theorem S_foliantref07_number_eq (t0 : Value) (w : World) (K : Ending → World → Prop) : wpX Tryz.prog 11 [] [] none (bodyOf Tryz.f55) (topQ Tryz.prog [.tmp 2] K) (startX [t0]) [] w = S_foliantref07_number t0 w K := by kernel_rfl
theorem S_foliantref07_number_ok {t0 : Value} {w : World} {K : Ending → World → Prop} (h : S_foliantref07_number t0 w K) : Calls Tryz.prog 55 #[t0] w K :=
  calls_of_wpX Tryz.func55 rfl rfl rfl rfl (Eq.mpr (S_foliantref07_number_eq t0 w K) h)

/- foliantref07.leaf -/
def S_foliantref07_leaf_0 (t3 : Value) (w : World) (K : Ending → World → Prop) : Prop :=
 K (.returned t3) w
def S_foliantref07_leaf (t0 : Value) (w : World) (K : Ending → World → Prop) : Prop :=
 DoX Tryz.prog (mBox 25 t0) w (pk K) fun t1 w =>
 JoinX (fun J1 =>
 DoX Tryz.prog (mFA 25 t1 0) w (pk K) fun t4 w =>
 DoX Tryz.prog (mLoad 3 t4) w (pk K) fun t5 w =>
 DoX Tryz.prog (mEq .eql 3 (.tmp 5) (.const (.int .i64 1)) t5 (.int .i64 1)) w (pk K) fun t7 w =>
 IfX t7 (DoX Tryz.prog (mFA 25 t1 1) w (pk K) fun t8 w =>
 DoX Tryz.prog (mLoad 2 t8) w (pk K) fun t9 w =>
 DoX Tryz.prog (mEq .eql 2 (.tmp 9) (.const (.int .i64 0)) t9 (.int .i64 0)) w (pk K) fun t10 w =>
 IfX t10 (J1 [(.string ⟨#[102, 97, 108, 115, 101]⟩)] w) (J1 [(.string ⟨#[116, 114, 117, 101]⟩)] w)) (DoX Tryz.prog (mEq .eql 3 (.tmp 5) (.const (.int .i64 2)) t5 (.int .i64 2)) w (pk K) fun t12 w =>
 IfX t12 (DoX Tryz.prog (mFA 25 t1 1) w (pk K) fun t13 w =>
 DoX Tryz.prog (mLoad 2 t13) w (pk K) fun t14 w =>
 CallX Tryz.prog 55 #[t14] w (pk K) fun t15 w =>
 J1 [t15] w) (DoX Tryz.prog (mEq .eql 3 (.tmp 5) (.const (.int .i64 3)) t5 (.int .i64 3)) w (pk K) fun t17 w =>
 IfX t17 (DoX Tryz.prog (mFA 25 t1 1) w (pk K) fun t19 w =>
 DoX Tryz.prog (mLoad 2 t19) w (pk K) fun t20 w =>
 CallX Tryz.prog 110 #[t20] w (pk K) fun t21 w =>
 DoX Tryz.prog (mExt t21 0) w (pk K) fun t22 w =>
 DoX Tryz.prog (mExt t21 1) w (pk K) fun t23 w =>
 J1 [t22] w) (DoX Tryz.prog (mEq .eql 3 (.tmp 5) (.const (.int .i64 4)) t5 (.int .i64 4)) w (pk K) fun t25 w =>
 IfX t25 (DoX Tryz.prog (mFA 25 t1 3) w (pk K) fun t27 w =>
 DoX Tryz.prog (mLoad 9 t27) w (pk K) fun t28 w =>
 CallX Tryz.prog 111 #[t28] w (pk K) fun t29 w =>
 DoX Tryz.prog (mExt t29 0) w (pk K) fun t30 w =>
 DoX Tryz.prog (mExt t29 1) w (pk K) fun t31 w =>
 J1 [t30] w) (DoX Tryz.prog (mEq .eql 3 (.tmp 5) (.const (.int .i64 5)) t5 (.int .i64 5)) w (pk K) fun t33 w =>
 IfX t33 (DoX Tryz.prog (mFA 25 t1 3) w (pk K) fun t35 w =>
 DoX Tryz.prog (mLoad 9 t35) w (pk K) fun t36 w =>
 CallX Tryz.prog 56 #[t36] w (pk K) fun t37 w =>
 DoX Tryz.prog (mExt t37 0) w (pk K) fun t38 w =>
 DoX Tryz.prog (mExt t37 1) w (pk K) fun t39 w =>
 J1 [t38] w) (J1 [(.string ⟨#[110, 117, 108, 108]⟩)] w)))))) (fun vs1 w => ∀ _ : Sg, S_foliantref07_leaf_0 (vs1.getD 0 undef) w K)
theorem S_foliantref07_leaf_eq (t0 : Value) (w : World) (K : Ending → World → Prop) : wpX Tryz.prog 41 [(15, [3])] [] none (bodyOf Tryz.f57) (topQ Tryz.prog [.tmp 2] K) (startX [t0]) [] w = S_foliantref07_leaf t0 w K := by kernel_rfl
theorem S_foliantref07_leaf_ok {t0 : Value} {w : World} {K : Ending → World → Prop} (h : S_foliantref07_leaf t0 w K) : Calls Tryz.prog 57 #[t0] w K :=
  calls_of_wpX Tryz.func57 rfl rfl rfl rfl (Eq.mpr (S_foliantref07_leaf_eq t0 w K) h)

/- foliantref07.Parts -/
def S_foliantref07_Parts_1 (t1 t3 t5 : Value) (w : World) (N3 : List Value → World → Prop) (K : Ending → World → Prop) : Prop :=
 DoX Tryz.prog (mFA 25 t1 5) w (pk K) fun t48 w =>
 DoX Tryz.prog (mLoad 23 t48) w (pk K) fun t49 w =>
 DoX Tryz.prog (mB .len #[23] 3 #[false] #[t49]) w (pk K) fun t50 w =>
 DoX Tryz.prog (mBin .lss 3 t5 t50) w (pk K) fun t51 w =>
 GDo t51 true (fun E => E t5 w) w fun t53 w =>
 GDo t51 true (fun E => DoX Tryz.prog (mFA 25 t1 4) w (pk K) E) w fun t54 w =>
 GDo t51 true (fun E => DoX Tryz.prog (mLoad 22 t54) w (pk K) E) w fun t55 w =>
 GDo t51 true (fun E => DoX Tryz.prog (mB .len #[22] 3 #[false] #[t55]) w (pk K) E) w fun t56 w =>
 GDo t51 true (fun E => DoX Tryz.prog (mBin .lss 3 t53 t56) w (pk K) E) w fun t57 w =>
 DoX Tryz.prog (mPick t51 t57 (.bool false)) w (pk K) fun t58 w =>
 IfX t58 (DoX Tryz.prog (mFA 25 t1 4) w (pk K) fun t62 w =>
 DoX Tryz.prog (mLoad 22 t62) w (pk K) fun t63 w =>
 DoX Tryz.prog (mIA 22 t63 t5) w (pk K) fun t65 w =>
 DoX Tryz.prog (mLoad 9 t65) w (pk K) fun t66 w =>
 CallX Tryz.prog 56 #[t66] w (pk K) fun t67 w =>
 DoX Tryz.prog (mExt t67 0) w (pk K) fun t68 w =>
 DoX Tryz.prog (mExt t67 1) w (pk K) fun t69 w =>
 HeldX w (fun S4 w =>
 HDo Tryz.prog S4 (mFA 25 t1 5) fun t74 =>
 HDo Tryz.prog S4 (mLoad 23 t74) fun t75 =>
 HDo Tryz.prog S4 (mIA 23 t75 t5) fun t77 =>
 HDo Tryz.prog S4 (mLoad 25 t77) fun t78 =>
 DoX Tryz.prog (mBuildS 22 1 #[(0, t68)]) w (pm1 (pm1 (pm1 (pm1 (pm1 (pm1 (pm1 (pm1 (pk K))))))))) fun t72 w =>
 S4 w ∧ (DoX Tryz.prog (mB .append #[22, 22] 22 #[false, false] #[t3, t72]) w (pm1 (pm1 (pm1 (pm1 (pm1 (pm1 (pm1 (pm1 (pk K))))))))) fun t73 w =>
 S4 w ∧ (CallX Tryz.prog 19 #[t78] w (pm1 (pm1 (pm1 (pm1 (pm1 (pm1 (pm1 (pm1 (pk K))))))))) fun t79 w =>
 S4 w ∧ (DoX Tryz.prog (mB .append #[22, 22] 22 #[false, false] #[t73, t79]) w (pm1 (pm1 (pm1 (pm1 (pm1 (pm1 (pm1 (pm1 (pk K))))))))) fun t80 w =>
 S4 w ∧ (DoX Tryz.prog (mBin .add 3 t5 (.int .i64 1)) w (pk K) fun t60 w =>
 N3 [t80, t60] w)))))) (DoX Tryz.prog (mBuildS 22 1 #[(0, (.string ⟨#[62, 62]⟩))]) w (pk K) fun t82 w =>
 DoX Tryz.prog (mB .append #[22, 22] 22 #[false, false] #[t3, t82]) w (pk K) fun t83 w =>
 K (.returned t83) w)
def S_foliantref07_Parts_0 (t1 t3 t4 : Value) (w : World) (N2 : List Value → World → Prop) (K : Ending → World → Prop) : Prop :=
 DoX Tryz.prog (mFA 25 t1 5) w (pk K) fun t25 w =>
 DoX Tryz.prog (mLoad 23 t25) w (pk K) fun t26 w =>
 DoX Tryz.prog (mB .len #[23] 3 #[false] #[t26]) w (pk K) fun t27 w =>
 DoX Tryz.prog (mBin .lss 3 t4 t27) w (pk K) fun t28 w =>
 IfX t28 (DoX Tryz.prog (mFA 25 t1 5) w (pk K) fun t32 w =>
 DoX Tryz.prog (mLoad 23 t32) w (pk K) fun t33 w =>
 DoX Tryz.prog (mIA 23 t33 t4) w (pk K) fun t35 w =>
 DoX Tryz.prog (mLoad 25 t35) w (pk K) fun t36 w =>
 CallX Tryz.prog 19 #[t36] w (pk K) fun t37 w =>
 DoX Tryz.prog (mB .append #[22, 22] 22 #[false, false] #[t3, t37]) w (pk K) fun t38 w =>
 DoX Tryz.prog (mBin .add 3 t4 (.int .i64 1)) w (pk K) fun t30 w =>
 N2 [t38, t30] w) (DoX Tryz.prog (mBuildS 22 1 #[(0, (.string ⟨#[93]⟩))]) w (pk K) fun t40 w =>
 DoX Tryz.prog (mB .append #[22, 22] 22 #[false, false] #[t3, t40]) w (pk K) fun t41 w =>
 K (.returned t41) w)
def S_foliantref07_Parts (t0 : Value) (w : World) (K : Ending → World → Prop) : Prop :=
 DoX Tryz.prog (mBox 25 t0) w (pk K) fun t1 w =>
 DoX Tryz.prog (mFA 25 t1 0) w (pk K) fun t8 w =>
 DoX Tryz.prog (mLoad 3 t8) w (pk K) fun t9 w =>
 DoX Tryz.prog (mEq .eql 3 (.tmp 9) (.const (.int .i64 8)) t9 (.int .i64 8)) w (pk K) fun t11 w =>
 IfX t11 (QuietX w (fun C1 =>
 QDo Tryz.prog C1 (mFA 25 t1 1) fun t12 =>
 QDo Tryz.prog C1 (mLoad 2 t12) fun t13 =>
 QCall Tryz.prog C1 55 #[t13] fun t14 =>
 QDo Tryz.prog C1 (mFA 25 t1 2) fun t15 =>
 QDo Tryz.prog C1 (mLoad 3 t15) fun t16 =>
 QCall Tryz.prog C1 55 #[t16] fun t17 =>
 ∀ w, C1 w →
 DoX Tryz.prog (mBuildS 22 3 #[(0, t14), (1, t17), (2, (.string ⟨#[82]⟩))]) w (pk K) fun t18 w =>
 K (.returned t18) w)) (DoX Tryz.prog (mEq .eql 3 (.tmp 9) (.const (.int .i64 6)) t9 (.int .i64 6)) w (pk K) fun t20 w =>
 IfX t20 (DoX Tryz.prog (mBuildS 22 1 #[(0, (.string ⟨#[91]⟩))]) w (pk K) fun t22 w =>
 DoX Tryz.prog (mB .append #[22, 22] 22 #[false, false] #[(.slice none 0 0), t22]) w (pk K) fun t23 w =>
 LoopX [t23, (.int .i64 0)] w (fun vs2 w N2 => ∀ _ : Sg, S_foliantref07_Parts_0 t1 (vs2.getD 0 undef) (vs2.getD 1 undef) w N2 K)) (DoX Tryz.prog (mEq .eql 3 (.tmp 9) (.const (.int .i64 7)) t9 (.int .i64 7)) w (pk K) fun t43 w =>
 IfX t43 (DoX Tryz.prog (mBuildS 22 1 #[(0, (.string ⟨#[60, 60]⟩))]) w (pk K) fun t45 w =>
 DoX Tryz.prog (mB .append #[22, 22] 22 #[false, false] #[(.slice none 0 0), t45]) w (pk K) fun t46 w =>
 LoopX [t46, (.int .i64 0)] w (fun vs3 w N3 => ∀ _ : Sg, S_foliantref07_Parts_1 t1 (vs3.getD 0 undef) (vs3.getD 1 undef) w N3 K)) (DoX Tryz.prog (mLoad 25 t1) w (pk K) fun t84 w =>
 CallX Tryz.prog 57 #[t84] w (pk K) fun t85 w =>
 DoX Tryz.prog (mBuildS 22 1 #[(0, t85)]) w (pk K) fun t86 w =>
 K (.returned t86) w)))
theorem S_foliantref07_Parts_eq (t0 : Value) (w : World) (K : Ending → World → Prop) : wpX Tryz.prog 87 [] [(8, [3, 4]), (15, [3, 5])] none (bodyOf Tryz.f19) (topQ Tryz.prog [.tmp 2] K) (startX [t0]) [] w = S_foliantref07_Parts t0 w K := by kernel_rfl
theorem S_foliantref07_Parts_ok {t0 : Value} {w : World} {K : Ending → World → Prop} (h : S_foliantref07_Parts t0 w K) : Calls Tryz.prog 19 #[t0] w K :=
  calls_of_wpX Tryz.func19 rfl rfl rfl rfl (Eq.mpr (S_foliantref07_Parts_eq t0 w K) h)

/- foliantref07.Text -/
def S_foliantref07_Text (t0 : Value) (w : World) (K : Ending → World → Prop) : Prop :=
 DoX Tryz.prog (mBox 25 t0) w (pk K) fun t1 w =>
 DoX Tryz.prog (mLoad 25 t1) w (pk K) fun t5 w =>
 CallX Tryz.prog 49 #[t5] w (pk K) fun t6 w =>
 DoX Tryz.prog (mEq .neq 28 (.tmp 7) (.const (.int .i64 0)) t6 (.int .i64 0)) w (pk K) fun t8 w =>
 IfX t8 (K (.returned (.tuple #[(.string ⟨#[]⟩), t6])) w) (DoX Tryz.prog (mFA 25 t1 0) w (pk K) fun t10 w =>
 DoX Tryz.prog (mLoad 3 t10) w (pk K) fun t11 w =>
 DoX Tryz.prog (mEq .eql 3 (.tmp 11) (.const (.int .i64 9)) t11 (.int .i64 9)) w (pk K) fun t12 w =>
 IfX t12 (K (.returned (.tuple #[(.string ⟨#[]⟩), (.int .i64 10)])) w) (DoX Tryz.prog (mLoad 25 t1) w (pk K) fun t13 w =>
 CallX Tryz.prog 19 #[t13] w (pk K) fun t14 w =>
 CallX Tryz.prog 50 #[t14] w (pk K) fun t15 w =>
 K (.returned (.tuple #[t15, (.int .i64 0)])) w))
theorem S_foliantref07_Text_eq (t0 : Value) (w : World) (K : Ending → World → Prop) : wpX Tryz.prog 16 [] [] none (bodyOf Tryz.f14) (topQ Tryz.prog [.tmp 2, .tmp 3] K) (startX [t0]) [] w = S_foliantref07_Text t0 w K := by kernel_rfl
theorem S_foliantref07_Text_ok {t0 : Value} {w : World} {K : Ending → World → Prop} (h : S_foliantref07_Text t0 w K) : Calls Tryz.prog 14 #[t0] w K :=
  calls_of_wpX Tryz.func14 rfl rfl rfl rfl (Eq.mpr (S_foliantref07_Text_eq t0 w K) h)

/- foliantref07.Many -/
def S_foliantref07_Many_0 (t0 t4 t5 : Value) (w : World) (N1 : List Value → World → Prop) (K : Ending → World → Prop) : Prop :=
 DoX Tryz.prog (mB .len #[23] 3 #[false] #[t0]) w (pk K) fun t10 w =>
 DoX Tryz.prog (mBin .lss 3 t5 t10) w (pk K) fun t11 w =>
 IfX t11 (DoX Tryz.prog (mIA 23 t0 t5) w (pk K) fun t17 w =>
 DoX Tryz.prog (mLoad 25 t17) w (pk K) fun t18 w =>
 CallX Tryz.prog 14 #[t18] w (pk K) fun t19 w =>
 DoX Tryz.prog (mExt t19 0) w (pk K) fun t20 w =>
 DoX Tryz.prog (mExt t19 1) w (pk K) fun t21 w =>
 DoX Tryz.prog (mEq .neq 28 (.tmp 22) (.const (.int .i64 0)) t21 (.int .i64 0)) w (pk K) fun t23 w =>
 IfX t23 (K (.returned (.tuple #[(.string ⟨#[]⟩), t21])) w) (DoX Tryz.prog (mBin .add 9 t4 t20) w (pk K) fun t27 w =>
 DoX Tryz.prog (mBin .add 9 t27 (.string ⟨#[10]⟩)) w (pk K) fun t28 w =>
 DoX Tryz.prog (mBin .add 3 t5 (.int .i64 1)) w (pk K) fun t13 w =>
 N1 [t28, t13] w)) (K (.returned (.tuple #[t4, (.int .i64 0)])) w)
def S_foliantref07_Many (t0 : Value) (w : World) (K : Ending → World → Prop) : Prop :=
 LoopX [(.string ⟨#[]⟩), (.int .i64 0)] w (fun vs1 w N1 => ∀ _ : Sg, S_foliantref07_Many_0 t0 (vs1.getD 0 undef) (vs1.getD 1 undef) w N1 K)
theorem S_foliantref07_Many_eq (t0 : Value) (w : World) (K : Ending → World → Prop) : wpX Tryz.prog 30 [] [(3, [4, 5])] none (bodyOf Tryz.f17) (topQ Tryz.prog [.tmp 2, .tmp 3] K) (startX [t0]) [] w = S_foliantref07_Many t0 w K := by kernel_rfl
theorem S_foliantref07_Many_ok {t0 : Value} {w : World} {K : Ending → World → Prop} (h : S_foliantref07_Many t0 w K) : Calls Tryz.prog 17 #[t0] w K :=
  calls_of_wpX Tryz.func17 rfl rfl rfl rfl (Eq.mpr (S_foliantref07_Many_eq t0 w K) h)

end Go.Proofs.YtiklhhdohckfiaaGreatDoor
/- Code in continuation form, by program (gen.py): 12 functions. -/
namespace Go.Proofs.YtiklhhdohckfiaaGreatDoor
set_option linter.unusedVariables false
set_option linter.unusedSimpArgs false
set_option linter.defProp false
set_option linter.unusedVariables false
set_option maxRecDepth 20000
open Eng

/- foliantref04.Int -/
def S_foliantref04_Int (t0 : Value) (w : World) (K : Ending → World → Prop) : Prop :=
 DoX Tryz.prog (mBin .lss 2 t0 (.int .i64 (-2147483647))) w (pk K) fun t5 w =>
 GDo t5 false (fun E => E t0 w) w fun t7 w =>
 GDo t5 false (fun E => DoX Tryz.prog (mBin .gtr 2 t7 (.int .i64 2147483647)) w (pk K) E) w fun t8 w =>
 DoX Tryz.prog (mPick t5 (.bool true) t8) w (pk K) fun t9 w =>
 IfX t9 (K (.returned (.tuple #[(.string ⟨#[]⟩), (.int .i64 2)])) w) (DoX Tryz.prog (mBin .lss 2 t0 (.int .i64 0)) w (pk K) fun t11 w =>
 IfX t11 (DoX Tryz.prog (mUn .neg t0) w (pk K) fun t13 w =>
 CallX Tryz.prog 174 #[t13] w (pk K) fun t14 w =>
 DoX Tryz.prog (mBin .add 9 (.string ⟨#[45]⟩) t14) w (pk K) fun t15 w =>
 K (.returned (.tuple #[t15, (.int .i64 0)])) w) (CallX Tryz.prog 174 #[t0] w (pk K) fun t17 w =>
 K (.returned (.tuple #[t17, (.int .i64 0)])) w))
theorem S_foliantref04_Int_eq (t0 : Value) (w : World) (K : Ending → World → Prop) : wpX Tryz.prog 18 [] [] none (bodyOf Tryz.f107) (topQ Tryz.prog [.tmp 2, .tmp 3] K) (startX [t0]) [] w = S_foliantref04_Int t0 w K := by kernel_rfl
theorem S_foliantref04_Int_ok {t0 : Value} {w : World} {K : Ending → World → Prop} (h : S_foliantref04_Int t0 w K) : Calls Tryz.prog 107 #[t0] w K :=
  calls_of_wpX Tryz.func107 rfl rfl rfl rfl (Eq.mpr (S_foliantref04_Int_eq t0 w K) h)

/- foliantref04.Real -/
def S_foliantref04_Real (t0 : Value) (w : World) (K : Ending → World → Prop) : Prop :=
 DoX Tryz.prog (mBin .lss 2 t0 (.int .i64 (-1073741824))) w (pk K) fun t5 w =>
 GDo t5 false (fun E => E t0 w) w fun t7 w =>
 GDo t5 false (fun E => DoX Tryz.prog (mBin .gtr 2 t7 (.int .i64 1073741824)) w (pk K) E) w fun t8 w =>
 DoX Tryz.prog (mPick t5 (.bool true) t8) w (pk K) fun t9 w =>
 IfX t9 (K (.returned (.tuple #[(.string ⟨#[]⟩), (.int .i64 2)])) w) (CallX Tryz.prog 175 #[t0] w (pk K) fun t11 w =>
 K (.returned (.tuple #[t11, (.int .i64 0)])) w)
theorem S_foliantref04_Real_eq (t0 : Value) (w : World) (K : Ending → World → Prop) : wpX Tryz.prog 12 [] [] none (bodyOf Tryz.f110) (topQ Tryz.prog [.tmp 2, .tmp 3] K) (startX [t0]) [] w = S_foliantref04_Real t0 w K := by kernel_rfl
theorem S_foliantref04_Real_ok {t0 : Value} {w : World} {K : Ending → World → Prop} (h : S_foliantref04_Real t0 w K) : Calls Tryz.prog 110 #[t0] w K :=
  calls_of_wpX Tryz.func110 rfl rfl rfl rfl (Eq.mpr (S_foliantref04_Real_eq t0 w K) h)

/- foliantref04.String -/
def S_foliantref04_String_2 (t4 t5 : Value) (w : World) (N1 : List Value → World → Prop) (K : Ending → World → Prop) : Prop :=
 DoX Tryz.prog (mBin .add 3 t5 (.int .i64 1)) w (pk K) fun t16 w =>
 N1 [t4, t16] w
def S_foliantref04_String_1 (t4 t6 : Value) (w : World) (J2 : List Value → World → Prop) (K : Ending → World → Prop) : Prop :=
 DoX Tryz.prog (mBuildS 73 1 #[(0, t6)]) w (pk K) fun t54 w =>
 DoX Tryz.prog (mB .append #[73, 73] 73 #[false, false] #[t4, t54]) w (pk K) fun t55 w =>
 J2 [t55] w
def S_foliantref04_String_0 (t0 t4 t5 : Value) (w : World) (N1 : List Value → World → Prop) (K : Ending → World → Prop) : Prop :=
 DoX Tryz.prog (mB .len #[9] 3 #[false] #[t0]) w (pk K) fun t13 w =>
 DoX Tryz.prog (mBin .lss 3 t5 t13) w (pk K) fun t14 w =>
 IfX t14 (JoinX (fun J2 =>
 DoX Tryz.prog (mIx 9 t0 t5) w (pk K) fun t19 w =>
 DoX Tryz.prog (mBin .lss 5 t19 (.int .u8 32)) w (pk K) fun t21 w =>
 GDo t21 false (fun E => E t19 w) w fun t23 w =>
 GDo t21 false (fun E => DoX Tryz.prog (mBin .gtr 5 t23 (.int .u8 126)) w (pk K) E) w fun t24 w =>
 DoX Tryz.prog (mPick t21 (.bool true) t24) w (pk K) fun t25 w =>
 IfX t25 (DoX Tryz.prog (mBin .quo 5 t19 (.int .u8 64)) w (pk K) fun t28 w =>
 DoX Tryz.prog (mBin .add 5 (.int .u8 48) t28) w (pk K) fun t29 w =>
 DoX Tryz.prog (mBin .quo 5 t19 (.int .u8 8)) w (pk K) fun t31 w =>
 DoX Tryz.prog (mBin .rem 5 t31 (.int .u8 8)) w (pk K) fun t32 w =>
 DoX Tryz.prog (mBin .add 5 (.int .u8 48) t32) w (pk K) fun t33 w =>
 DoX Tryz.prog (mBin .rem 5 t19 (.int .u8 8)) w (pk K) fun t35 w =>
 DoX Tryz.prog (mBin .add 5 (.int .u8 48) t35) w (pk K) fun t36 w =>
 DoX Tryz.prog (mBuildS 73 4 #[(0, (.int .u8 92)), (1, t29), (2, t33), (3, t36)]) w (pk K) fun t37 w =>
 DoX Tryz.prog (mB .append #[73, 73] 73 #[false, false] #[t4, t37]) w (pk K) fun t38 w =>
 J2 [t38] w) (JoinX (fun J3 =>
 DoX Tryz.prog (mEq .eql 5 (.tmp 39) (.const (.int .u8 40)) t19 (.int .u8 40)) w (pk K) fun t40 w =>
 GDo t40 false (fun E => E t19 w) w fun t42 w =>
 GDo t40 false (fun E => DoX Tryz.prog (mEq .eql 5 (.tmp 42) (.const (.int .u8 41)) t42 (.int .u8 41)) w (pk K) E) w fun t43 w =>
 DoX Tryz.prog (mPick t40 (.bool true) t43) w (pk K) fun t44 w =>
 GDo t44 false (fun E => E t19 w) w fun t46 w =>
 GDo t44 false (fun E => DoX Tryz.prog (mEq .eql 5 (.tmp 46) (.const (.int .u8 92)) t46 (.int .u8 92)) w (pk K) E) w fun t47 w =>
 DoX Tryz.prog (mPick t44 (.bool true) t47) w (pk K) fun t48 w =>
 IfX t48 (DoX Tryz.prog (mBuildS 73 1 #[(0, (.int .u8 92))]) w (pk K) fun t50 w =>
 DoX Tryz.prog (mB .append #[73, 73] 73 #[false, false] #[t4, t50]) w (pk K) fun t51 w =>
 J3 [t51] w) (J3 [t4] w)) (fun vs3 w => ∀ _ : Sg, S_foliantref04_String_1 (vs3.getD 0 undef) t19 w J2 K))) (fun vs2 w => ∀ _ : Sg, S_foliantref04_String_2 (vs2.getD 0 undef) t5 w N1 K)) (DoX Tryz.prog (mBuildS 73 1 #[(0, (.int .u8 41))]) w (pk K) fun t57 w =>
 DoX Tryz.prog (mB .append #[73, 73] 73 #[false, false] #[t4, t57]) w (pk K) fun t58 w =>
 DoX Tryz.prog (mConv 73 9 t58) w (pk K) fun t59 w =>
 K (.returned (.tuple #[t59, (.int .i64 0)])) w)
def S_foliantref04_String (t0 : Value) (w : World) (K : Ending → World → Prop) : Prop :=
 DoX Tryz.prog (mB .len #[9] 3 #[false] #[t0]) w (pk K) fun t8 w =>
 DoX Tryz.prog (mBin .gtr 3 t8 (.int .i64 32767)) w (pk K) fun t9 w =>
 IfX t9 (K (.returned (.tuple #[(.string ⟨#[]⟩), (.int .i64 5)])) w) (DoX Tryz.prog (mBuildS 73 1 #[(0, (.int .u8 40))]) w (pk K) fun t10 w =>
 LoopX [t10, (.int .i64 0)] w (fun vs1 w N1 => ∀ _ : Sg, S_foliantref04_String_0 t0 (vs1.getD 0 undef) (vs1.getD 1 undef) w N1 K))
theorem S_foliantref04_String_eq (t0 : Value) (w : World) (K : Ending → World → Prop) : wpX Tryz.prog 60 [(6, [4]), (12, [4])] [(5, [4, 5])] none (bodyOf Tryz.f111) (topQ Tryz.prog [.tmp 2, .tmp 3] K) (startX [t0]) [] w = S_foliantref04_String t0 w K := by kernel_rfl
theorem S_foliantref04_String_ok {t0 : Value} {w : World} {K : Ending → World → Prop} (h : S_foliantref04_String t0 w K) : Calls Tryz.prog 111 #[t0] w K :=
  calls_of_wpX Tryz.func111 rfl rfl rfl rfl (Eq.mpr (S_foliantref04_String_eq t0 w K) h)

/- foliantref04.Hex -/
/- foliantref04.Name -/
def S_foliantref04_Name_1 (t4 t5 : Value) (w : World) (N1 : List Value → World → Prop) (K : Ending → World → Prop) : Prop :=
 DoX Tryz.prog (mBin .add 3 t5 (.int .i64 1)) w (pk K) fun t15 w =>
 N1 [t4, t15] w
def S_foliantref04_Name_0 (t0 t4 t5 : Value) (w : World) (N1 : List Value → World → Prop) (K : Ending → World → Prop) : Prop :=
 DoX Tryz.prog (mB .len #[9] 3 #[false] #[t0]) w (pk K) fun t12 w =>
 DoX Tryz.prog (mBin .lss 3 t5 t12) w (pk K) fun t13 w =>
 IfX t13 (JoinX (fun J2 =>
 DoX Tryz.prog (mIx 9 t0 t5) w (pk K) fun t18 w =>
 DoX Tryz.prog (mEq .eql 5 (.tmp 19) (.const (.int .u8 0)) t18 (.int .u8 0)) w (pk K) fun t20 w =>
 IfX t20 (K (.returned (.tuple #[(.string ⟨#[]⟩), (.int .i64 3)])) w) (DoX Tryz.prog (mBin .lss 5 t18 (.int .u8 33)) w (pk K) fun t22 w =>
 GDo t22 false (fun E => E t18 w) w fun t24 w =>
 GDo t22 false (fun E => DoX Tryz.prog (mBin .gtr 5 t24 (.int .u8 126)) w (pk K) E) w fun t25 w =>
 DoX Tryz.prog (mPick t22 (.bool true) t25) w (pk K) fun t26 w =>
 GDo t26 false (fun E => E t18 w) w fun t28 w =>
 GDo t26 false (fun E => DoX Tryz.prog (mEq .eql 5 (.tmp 28) (.const (.int .u8 35)) t28 (.int .u8 35)) w (pk K) E) w fun t29 w =>
 DoX Tryz.prog (mPick t26 (.bool true) t29) w (pk K) fun t30 w =>
 GDo t30 false (fun E => E t18 w) w fun t32 w =>
 GDo t30 false (fun E => CallX Tryz.prog 108 #[t32] w (pk K) E) w fun t33 w =>
 DoX Tryz.prog (mPick t30 (.bool true) t33) w (pk K) fun t34 w =>
 IfX t34 (DoX Tryz.prog (mBin .add 3 t5 (.int .i64 1)) w (pk K) fun t39 w =>
 DoX Tryz.prog (mSlice 9 t0 (some t5) (some t39) none) w (pk K) fun t40 w =>
 CallX Tryz.prog 109 #[t40] w (pk K) fun t41 w =>
 DoX Tryz.prog (mBin .add 9 (.string ⟨#[35]⟩) t41) w (pk K) fun t42 w =>
 DoX Tryz.prog (mBin .add 9 t4 t42) w (pk K) fun t43 w =>
 J2 [t43] w) (DoX Tryz.prog (mBin .add 3 t5 (.int .i64 1)) w (pk K) fun t48 w =>
 DoX Tryz.prog (mSlice 9 t0 (some t5) (some t48) none) w (pk K) fun t49 w =>
 DoX Tryz.prog (mBin .add 9 t4 t49) w (pk K) fun t50 w =>
 J2 [t50] w))) (fun vs2 w => ∀ _ : Sg, S_foliantref04_Name_1 (vs2.getD 0 undef) t5 w N1 K)) (K (.returned (.tuple #[t4, (.int .i64 0)])) w)
def S_foliantref04_Name (t0 : Value) (w : World) (K : Ending → World → Prop) : Prop :=
 DoX Tryz.prog (mB .len #[9] 3 #[false] #[t0]) w (pk K) fun t8 w =>
 DoX Tryz.prog (mBin .gtr 3 t8 (.int .i64 127)) w (pk K) fun t9 w =>
 IfX t9 (K (.returned (.tuple #[(.string ⟨#[]⟩), (.int .i64 5)])) w) (LoopX [(.string ⟨#[47]⟩), (.int .i64 0)] w (fun vs1 w N1 => ∀ _ : Sg, S_foliantref04_Name_0 t0 (vs1.getD 0 undef) (vs1.getD 1 undef) w N1 K))
theorem S_foliantref04_Name_eq (t0 : Value) (w : World) (K : Ending → World → Prop) : wpX Tryz.prog 52 [(6, [4])] [(5, [4, 5])] none (bodyOf Tryz.f56) (topQ Tryz.prog [.tmp 2, .tmp 3] K) (startX [t0]) [] w = S_foliantref04_Name t0 w K := by kernel_rfl
theorem S_foliantref04_Name_ok {t0 : Value} {w : World} {K : Ending → World → Prop} (h : S_foliantref04_Name t0 w K) : Calls Tryz.prog 56 #[t0] w K :=
  calls_of_wpX Tryz.func56 rfl rfl rfl rfl (Eq.mpr (S_foliantref04_Name_eq t0 w K) h)

/- foliantref04.Join -/
def S_foliantref04_Join_1 (t3 t5 t9 : Value) (w : World) (N1 : List Value → World → Prop) (K : Ending → World → Prop) : Prop :=
 DoX Tryz.prog (mBin .add 9 t3 t5) w (pk K) fun t39 w =>
 DoX Tryz.prog (mBin .add 3 t9 (.int .i64 1)) w (pk K) fun t40 w =>
 N1 [t39, t40] w
def S_foliantref04_Join_0 (t3 t7 t8 t9 : Value) (w : World) (N1 : List Value → World → Prop) (K : Ending → World → Prop) : Prop :=
 DoX Tryz.prog (mBin .lss 3 t9 t8) w (pk K) fun t10 w =>
 IfX t10 (DoX Tryz.prog (mIA 22 t7 t9) w (pk K) fun t11 w =>
 DoX Tryz.prog (mLoad 9 t11) w (pk K) fun t12 w =>
 JoinX (fun J2 =>
 DoX Tryz.prog (mEq .neq 9 (.tmp 13) (.const (.string ⟨#[]⟩)) t12 (.string ⟨#[]⟩)) w (pk K) fun t14 w =>
 GDo t14 true (fun E => E t3 w) w fun t16 w =>
 GDo t14 true (fun E => DoX Tryz.prog (mEq .neq 9 (.tmp 16) (.const (.string ⟨#[]⟩)) t16 (.string ⟨#[]⟩)) w (pk K) E) w fun t17 w =>
 DoX Tryz.prog (mPick t14 t17 (.bool false)) w (pk K) fun t18 w =>
 GDo t18 true (fun E => E t12 w) w fun t20 w =>
 GDo t18 true (fun E => DoX Tryz.prog (mIx 9 t20 (.int .i64 0)) w (pk K) E) w fun t21 w =>
 GDo t18 true (fun E => CallX Tryz.prog 103 #[t21] w (pk K) E) w fun t22 w =>
 DoX Tryz.prog (mPick t18 t22 (.bool false)) w (pk K) fun t23 w =>
 IfX t23 (DoX Tryz.prog (mB .len #[9] 3 #[false] #[t3]) w (pk K) fun t26 w =>
 DoX Tryz.prog (mBin .sub 3 t26 (.int .i64 1)) w (pk K) fun t27 w =>
 DoX Tryz.prog (mIx 9 t3 t27) w (pk K) fun t28 w =>
 DoX Tryz.prog (mEq .eql 5 (.tmp 29) (.const (.int .u8 47)) t28 (.int .u8 47)) w (pk K) fun t30 w =>
 GDo t30 false (fun E => E t28 w) w fun t32 w =>
 GDo t30 false (fun E => CallX Tryz.prog 103 #[t32] w (pk K) E) w fun t33 w =>
 DoX Tryz.prog (mPick t30 (.bool true) t33) w (pk K) fun t34 w =>
 IfX t34 (DoX Tryz.prog (mBin .add 9 t3 (.string ⟨#[32]⟩)) w (pk K) fun t36 w =>
 J2 [t36] w) (J2 [t3] w)) (J2 [t3] w)) (fun vs2 w => ∀ _ : Sg, S_foliantref04_Join_1 (vs2.getD 0 undef) t12 t9 w N1 K)) (K (.returned t3) w)
def S_foliantref04_Join (t0 : Value) (w : World) (K : Ending → World → Prop) : Prop :=
 DoX Tryz.prog (mB .len #[22] 3 #[false] #[t0]) w (pk K) fun t8 w =>
 LoopX [(.string ⟨#[]⟩), (.int .i64 0)] w (fun vs1 w N1 => ∀ _ : Sg, S_foliantref04_Join_0 (vs1.getD 0 undef) t0 t8 (vs1.getD 1 undef) w N1 K)
theorem S_foliantref04_Join_eq (t0 : Value) (w : World) (K : Ending → World → Prop) : wpX Tryz.prog 42 [(9, [3])] [(3, [3, 9])] none (bodyOf Tryz.f50) (topQ Tryz.prog [.tmp 2] K) (startX [t0]) [] w = S_foliantref04_Join t0 w K := by kernel_rfl
theorem S_foliantref04_Join_ok {t0 : Value} {w : World} {K : Ending → World → Prop} (h : S_foliantref04_Join t0 w K) : Calls Tryz.prog 50 #[t0] w K :=
  calls_of_wpX Tryz.func50 rfl rfl rfl rfl (Eq.mpr (S_foliantref04_Join_eq t0 w K) h)

/- foliantref04.Pad -/
/- foliantref04.digits -/
def S_foliantref04_digits (t0 : Value) (w : World) (K : Ending → World → Prop) : Prop :=
 DoX Tryz.prog (mBin .rem 2 t0 (.int .i64 10)) w (pk K) fun t5 w =>
 DoX Tryz.prog (mBin .rem 2 t0 (.int .i64 10)) w (pk K) fun t7 w =>
 DoX Tryz.prog (mBin .add 2 t7 (.int .i64 1)) w (pk K) fun t8 w =>
 DoX Tryz.prog (mSlice 9 (.string ⟨#[48, 49, 50, 51, 52, 53, 54, 55, 56, 57]⟩) (some t5) (some t8) none) w (pk K) fun t9 w =>
 DoX Tryz.prog (mBin .lss 2 t0 (.int .i64 10)) w (pk K) fun t11 w =>
 IfX t11 (K (.returned t9) w) (DoX Tryz.prog (mBin .quo 2 t0 (.int .i64 10)) w (pk K) fun t14 w =>
 CallX Tryz.prog 174 #[t14] w (pk K) fun t15 w =>
 DoX Tryz.prog (mBin .add 9 t15 t9) w (pk K) fun t17 w =>
 K (.returned t17) w)
theorem S_foliantref04_digits_eq (t0 : Value) (w : World) (K : Ending → World → Prop) : wpX Tryz.prog 18 [] [] none (bodyOf Tryz.f174) (topQ Tryz.prog [.tmp 2] K) (startX [t0]) [] w = S_foliantref04_digits t0 w K := by kernel_rfl
theorem S_foliantref04_digits_ok {t0 : Value} {w : World} {K : Ending → World → Prop} (h : S_foliantref04_digits t0 w K) : Calls Tryz.prog 174 #[t0] w K :=
  calls_of_wpX Tryz.func174 rfl rfl rfl rfl (Eq.mpr (S_foliantref04_digits_eq t0 w K) h)

/- foliantref01.Hex -/
def S_foliantref01_Hex_0 (t0 t3 t4 t5 : Value) (w : World) (N1 : List Value → World → Prop) (K : Ending → World → Prop) : Prop :=
 DoX Tryz.prog (mB .len #[9] 3 #[false] #[t0]) w (pk K) fun t8 w =>
 DoX Tryz.prog (mBin .lss 3 t5 t8) w (pk K) fun t9 w =>
 IfX t9 (QuietX w (fun C2 =>
 QDo Tryz.prog C2 (mIx 9 t0 t5) fun t16 =>
 QDo Tryz.prog C2 (mBin .quo 5 t16 (.int .u8 16)) fun t17 =>
 QDo Tryz.prog C2 (mIx 9 t3 t17) fun t18 =>
 QDo Tryz.prog C2 (mIx 9 t0 t5) fun t22 =>
 QDo Tryz.prog C2 (mBin .rem 5 t22 (.int .u8 16)) fun t23 =>
 QDo Tryz.prog C2 (mIx 9 t3 t23) fun t24 =>
 ∀ w, C2 w →
 DoX Tryz.prog (mBuildS 73 2 #[(0, t18), (1, t24)]) w (pm1 (pm1 (pm1 (pm1 (pm1 (pm1 (pm1 (pk K)))))))) fun t25 w =>
 DoX Tryz.prog (mB .append #[73, 73] 73 #[false, false] #[t4, t25]) w (pm1 (pm1 (pm1 (pm1 (pm1 (pm1 (pm1 (pk K)))))))) fun t26 w =>
 DoX Tryz.prog (mBin .add 3 t5 (.int .i64 1)) w (pk K) fun t11 w =>
 N1 [t26, t11] w)) (DoX Tryz.prog (mConv 73 9 t4) w (pk K) fun t28 w =>
 K (.returned t28) w)
def S_foliantref01_Hex (t0 : Value) (w : World) (K : Ending → World → Prop) : Prop :=
 LoopX [(.slice none 0 0), (.int .i64 0)] w (fun vs1 w N1 => ∀ _ : Sg, S_foliantref01_Hex_0 t0 (.string ⟨#[48, 49, 50, 51, 52, 53, 54, 55, 56, 57, 65, 66, 67, 68, 69, 70]⟩) (vs1.getD 0 undef) (vs1.getD 1 undef) w N1 K)
theorem S_foliantref01_Hex_eq (t0 : Value) (w : World) (K : Ending → World → Prop) : wpX Tryz.prog 29 [] [(4, [4, 5])] none (bodyOf Tryz.f109) (topQ Tryz.prog [.tmp 2] K) (startX [t0]) [] w = S_foliantref01_Hex t0 w K := by kernel_rfl
theorem S_foliantref01_Hex_ok {t0 : Value} {w : World} {K : Ending → World → Prop} (h : S_foliantref01_Hex t0 w K) : Calls Tryz.prog 109 #[t0] w K :=
  calls_of_wpX Tryz.func109 rfl rfl rfl rfl (Eq.mpr (S_foliantref01_Hex_eq t0 w K) h)

/- foliantref01.Delim -/
def S_foliantref01_Delim (t0 : Value) (w : World) (K : Ending → World → Prop) : Prop :=
 DoX Tryz.prog (mEq .eql 5 (.tmp 3) (.const (.int .u8 40)) t0 (.int .u8 40)) w (pk K) fun t4 w =>
 GDo t4 false (fun E => E t0 w) w fun t6 w =>
 GDo t4 false (fun E => DoX Tryz.prog (mEq .eql 5 (.tmp 6) (.const (.int .u8 41)) t6 (.int .u8 41)) w (pk K) E) w fun t7 w =>
 DoX Tryz.prog (mPick t4 (.bool true) t7) w (pk K) fun t8 w =>
 GDo t8 false (fun E => E t0 w) w fun t10 w =>
 GDo t8 false (fun E => DoX Tryz.prog (mEq .eql 5 (.tmp 10) (.const (.int .u8 60)) t10 (.int .u8 60)) w (pk K) E) w fun t11 w =>
 DoX Tryz.prog (mPick t8 (.bool true) t11) w (pk K) fun t12 w =>
 GDo t12 false (fun E => E t0 w) w fun t14 w =>
 GDo t12 false (fun E => DoX Tryz.prog (mEq .eql 5 (.tmp 14) (.const (.int .u8 62)) t14 (.int .u8 62)) w (pk K) E) w fun t15 w =>
 DoX Tryz.prog (mPick t12 (.bool true) t15) w (pk K) fun t16 w =>
 GDo t16 false (fun E => E t0 w) w fun t18 w =>
 GDo t16 false (fun E => DoX Tryz.prog (mEq .eql 5 (.tmp 18) (.const (.int .u8 91)) t18 (.int .u8 91)) w (pk K) E) w fun t19 w =>
 DoX Tryz.prog (mPick t16 (.bool true) t19) w (pk K) fun t20 w =>
 GDo t20 false (fun E => E t0 w) w fun t22 w =>
 GDo t20 false (fun E => DoX Tryz.prog (mEq .eql 5 (.tmp 22) (.const (.int .u8 93)) t22 (.int .u8 93)) w (pk K) E) w fun t23 w =>
 DoX Tryz.prog (mPick t20 (.bool true) t23) w (pk K) fun t24 w =>
 GDo t24 false (fun E => E t0 w) w fun t26 w =>
 GDo t24 false (fun E => DoX Tryz.prog (mEq .eql 5 (.tmp 26) (.const (.int .u8 123)) t26 (.int .u8 123)) w (pk K) E) w fun t27 w =>
 DoX Tryz.prog (mPick t24 (.bool true) t27) w (pk K) fun t28 w =>
 GDo t28 false (fun E => E t0 w) w fun t30 w =>
 GDo t28 false (fun E => DoX Tryz.prog (mEq .eql 5 (.tmp 30) (.const (.int .u8 125)) t30 (.int .u8 125)) w (pk K) E) w fun t31 w =>
 DoX Tryz.prog (mPick t28 (.bool true) t31) w (pk K) fun t32 w =>
 GDo t32 false (fun E => E t0 w) w fun t34 w =>
 GDo t32 false (fun E => DoX Tryz.prog (mEq .eql 5 (.tmp 34) (.const (.int .u8 47)) t34 (.int .u8 47)) w (pk K) E) w fun t35 w =>
 DoX Tryz.prog (mPick t32 (.bool true) t35) w (pk K) fun t36 w =>
 GDo t36 false (fun E => E t0 w) w fun t38 w =>
 GDo t36 false (fun E => DoX Tryz.prog (mEq .eql 5 (.tmp 38) (.const (.int .u8 37)) t38 (.int .u8 37)) w (pk K) E) w fun t39 w =>
 DoX Tryz.prog (mPick t36 (.bool true) t39) w (pk K) fun t40 w =>
 K (.returned t40) w
theorem S_foliantref01_Delim_eq (t0 : Value) (w : World) (K : Ending → World → Prop) : wpX Tryz.prog 41 [] [] none (bodyOf Tryz.f108) (topQ Tryz.prog [.tmp 2] K) (startX [t0]) [] w = S_foliantref01_Delim t0 w K := by kernel_rfl
theorem S_foliantref01_Delim_ok {t0 : Value} {w : World} {K : Ending → World → Prop} (h : S_foliantref01_Delim t0 w K) : Calls Tryz.prog 108 #[t0] w K :=
  calls_of_wpX Tryz.func108 rfl rfl rfl rfl (Eq.mpr (S_foliantref01_Delim_eq t0 w K) h)

/- foliantref01.Regular -/
def S_foliantref01_Regular (t0 : Value) (w : World) (K : Ending → World → Prop) : Prop :=
 CallX Tryz.prog 170 #[t0] w (pk K) fun t4 w =>
 DoX Tryz.prog (mUn .not t4) w (pk K) fun t5 w =>
 GDo t5 true (fun E => E t0 w) w fun t7 w =>
 GDo t5 true (fun E => CallX Tryz.prog 108 #[t7] w (pk K) E) w fun t8 w =>
 GDo t5 true (fun E => DoX Tryz.prog (mUn .not t8) w (pk K) E) w fun t9 w =>
 DoX Tryz.prog (mPick t5 t9 (.bool false)) w (pk K) fun t10 w =>
 K (.returned t10) w
theorem S_foliantref01_Regular_eq (t0 : Value) (w : World) (K : Ending → World → Prop) : wpX Tryz.prog 11 [] [] none (bodyOf Tryz.f103) (topQ Tryz.prog [.tmp 2] K) (startX [t0]) [] w = S_foliantref01_Regular t0 w K := by kernel_rfl
theorem S_foliantref01_Regular_ok {t0 : Value} {w : World} {K : Ending → World → Prop} (h : S_foliantref01_Regular t0 w K) : Calls Tryz.prog 103 #[t0] w K :=
  calls_of_wpX Tryz.func103 rfl rfl rfl rfl (Eq.mpr (S_foliantref01_Regular_eq t0 w K) h)

/- foliantref01.White -/
def S_foliantref01_White (t0 : Value) (w : World) (K : Ending → World → Prop) : Prop :=
 DoX Tryz.prog (mEq .eql 5 (.tmp 3) (.const (.int .u8 0)) t0 (.int .u8 0)) w (pk K) fun t4 w =>
 GDo t4 false (fun E => E t0 w) w fun t6 w =>
 GDo t4 false (fun E => DoX Tryz.prog (mEq .eql 5 (.tmp 6) (.const (.int .u8 9)) t6 (.int .u8 9)) w (pk K) E) w fun t7 w =>
 DoX Tryz.prog (mPick t4 (.bool true) t7) w (pk K) fun t8 w =>
 GDo t8 false (fun E => E t0 w) w fun t10 w =>
 GDo t8 false (fun E => DoX Tryz.prog (mEq .eql 5 (.tmp 10) (.const (.int .u8 10)) t10 (.int .u8 10)) w (pk K) E) w fun t11 w =>
 DoX Tryz.prog (mPick t8 (.bool true) t11) w (pk K) fun t12 w =>
 GDo t12 false (fun E => E t0 w) w fun t14 w =>
 GDo t12 false (fun E => DoX Tryz.prog (mEq .eql 5 (.tmp 14) (.const (.int .u8 12)) t14 (.int .u8 12)) w (pk K) E) w fun t15 w =>
 DoX Tryz.prog (mPick t12 (.bool true) t15) w (pk K) fun t16 w =>
 GDo t16 false (fun E => E t0 w) w fun t18 w =>
 GDo t16 false (fun E => DoX Tryz.prog (mEq .eql 5 (.tmp 18) (.const (.int .u8 13)) t18 (.int .u8 13)) w (pk K) E) w fun t19 w =>
 DoX Tryz.prog (mPick t16 (.bool true) t19) w (pk K) fun t20 w =>
 GDo t20 false (fun E => E t0 w) w fun t22 w =>
 GDo t20 false (fun E => DoX Tryz.prog (mEq .eql 5 (.tmp 22) (.const (.int .u8 32)) t22 (.int .u8 32)) w (pk K) E) w fun t23 w =>
 DoX Tryz.prog (mPick t20 (.bool true) t23) w (pk K) fun t24 w =>
 K (.returned t24) w
theorem S_foliantref01_White_eq (t0 : Value) (w : World) (K : Ending → World → Prop) : wpX Tryz.prog 25 [] [] none (bodyOf Tryz.f170) (topQ Tryz.prog [.tmp 2] K) (startX [t0]) [] w = S_foliantref01_White t0 w K := by kernel_rfl
theorem S_foliantref01_White_ok {t0 : Value} {w : World} {K : Ending → World → Prop} (h : S_foliantref01_White t0 w K) : Calls Tryz.prog 170 #[t0] w K :=
  calls_of_wpX Tryz.func170 rfl rfl rfl rfl (Eq.mpr (S_foliantref01_White_eq t0 w K) h)

end Go.Proofs.YtiklhhdohckfiaaGreatDoor
/- Contracts: the references of layers 1 and 4 (White, Delim, Regular, Hex; Int, Real, String, Hex, Name, Join, Pad). -/
namespace Go.Proofs.YtiklhhdohckfiaaGreatDoor
set_option linter.unusedVariables false
set_option linter.unusedSimpArgs false
set_option linter.defProp false
open Eng Go.RowKit

theorem rwhite_ret (c : UInt8) (w : World) : Ret Tryz.prog 170 #[.int .u8 c.toNat] w (fun v w' => v = .bool (Oc.white c) ∧ w = w') := by
  refine ret_of fun K hK => S_foliantref01_White_ok ?_
  unfold S_foliantref01_White
  have e0 := u8d c 0 0 rfl
  have e1 := u8d c 9 9 rfl
  have e2 := u8d c 10 10 rfl
  have e3 := u8d c 12 12 rfl
  have e4 := u8d c 13 13 rfl
  have e5 := u8d c 32 32 rfl
  by_cases h0 : c = 0
  · simp only [rs, e0, decide_eq_true h0, g_un]
    exact hK _ _ ⟨by rw [h0]; rfl, rfl⟩
  simp only [rs, e0, decide_eq_false h0, g_un]
  by_cases h1 : c = 9
  · simp only [rs, e1, decide_eq_true h1, g_un]
    exact hK _ _ ⟨by rw [h1]; rfl, rfl⟩
  simp only [rs, e1, decide_eq_false h1, g_un]
  by_cases h2 : c = 10
  · simp only [rs, e2, decide_eq_true h2, g_un]
    exact hK _ _ ⟨by rw [h2]; rfl, rfl⟩
  simp only [rs, e2, decide_eq_false h2, g_un]
  by_cases h3 : c = 12
  · simp only [rs, e3, decide_eq_true h3, g_un]
    exact hK _ _ ⟨by rw [h3]; rfl, rfl⟩
  simp only [rs, e3, decide_eq_false h3, g_un]
  by_cases h4 : c = 13
  · simp only [rs, e4, decide_eq_true h4, g_un]
    exact hK _ _ ⟨by rw [h4]; rfl, rfl⟩
  simp only [rs, e4, decide_eq_false h4, g_un]
  by_cases h5 : c = 32
  · simp only [rs, e5, decide_eq_true h5, g_un]
    exact hK _ _ ⟨by rw [h5]; rfl, rfl⟩
  simp only [rs, e5, decide_eq_false h5, g_un]
  exact hK _ _ ⟨by simp [Oc.white, Oc.whites, h0, h1, h2, h3, h4, h5], rfl⟩
theorem rdelim_ret (c : UInt8) (w : World) : Ret Tryz.prog 108 #[.int .u8 c.toNat] w (fun v w' => v = .bool (Oc.delim c) ∧ w = w') := by
  refine ret_of fun K hK => S_foliantref01_Delim_ok ?_
  unfold S_foliantref01_Delim
  have e0 := u8d c 40 40 rfl
  have e1 := u8d c 41 41 rfl
  have e2 := u8d c 60 60 rfl
  have e3 := u8d c 62 62 rfl
  have e4 := u8d c 91 91 rfl
  have e5 := u8d c 93 93 rfl
  have e6 := u8d c 123 123 rfl
  have e7 := u8d c 125 125 rfl
  have e8 := u8d c 47 47 rfl
  have e9 := u8d c 37 37 rfl
  by_cases h0 : c = 40
  · simp only [rs, e0, decide_eq_true h0, g_un]
    exact hK _ _ ⟨by rw [h0]; rfl, rfl⟩
  simp only [rs, e0, decide_eq_false h0, g_un]
  by_cases h1 : c = 41
  · simp only [rs, e1, decide_eq_true h1, g_un]
    exact hK _ _ ⟨by rw [h1]; rfl, rfl⟩
  simp only [rs, e1, decide_eq_false h1, g_un]
  by_cases h2 : c = 60
  · simp only [rs, e2, decide_eq_true h2, g_un]
    exact hK _ _ ⟨by rw [h2]; rfl, rfl⟩
  simp only [rs, e2, decide_eq_false h2, g_un]
  by_cases h3 : c = 62
  · simp only [rs, e3, decide_eq_true h3, g_un]
    exact hK _ _ ⟨by rw [h3]; rfl, rfl⟩
  simp only [rs, e3, decide_eq_false h3, g_un]
  by_cases h4 : c = 91
  · simp only [rs, e4, decide_eq_true h4, g_un]
    exact hK _ _ ⟨by rw [h4]; rfl, rfl⟩
  simp only [rs, e4, decide_eq_false h4, g_un]
  by_cases h5 : c = 93
  · simp only [rs, e5, decide_eq_true h5, g_un]
    exact hK _ _ ⟨by rw [h5]; rfl, rfl⟩
  simp only [rs, e5, decide_eq_false h5, g_un]
  by_cases h6 : c = 123
  · simp only [rs, e6, decide_eq_true h6, g_un]
    exact hK _ _ ⟨by rw [h6]; rfl, rfl⟩
  simp only [rs, e6, decide_eq_false h6, g_un]
  by_cases h7 : c = 125
  · simp only [rs, e7, decide_eq_true h7, g_un]
    exact hK _ _ ⟨by rw [h7]; rfl, rfl⟩
  simp only [rs, e7, decide_eq_false h7, g_un]
  by_cases h8 : c = 47
  · simp only [rs, e8, decide_eq_true h8, g_un]
    exact hK _ _ ⟨by rw [h8]; rfl, rfl⟩
  simp only [rs, e8, decide_eq_false h8, g_un]
  by_cases h9 : c = 37
  · simp only [rs, e9, decide_eq_true h9, g_un]
    exact hK _ _ ⟨by rw [h9]; rfl, rfl⟩
  simp only [rs, e9, decide_eq_false h9, g_un]
  exact hK _ _ ⟨by simp [Oc.delim, Oc.delims, h0, h1, h2, h3, h4, h5, h6, h7, h8, h9], rfl⟩
theorem rregular_ret (c : UInt8) (w : World) : Ret Tryz.prog 103 #[.int .u8 c.toNat] w (fun v w' => v = .bool (Oc.regular c) ∧ w = w') := by
  refine ret_of fun K hK => S_foliantref01_Regular_ok ?_
  unfold S_foliantref01_Regular
  refine c_eq (rwhite_ret c w) ?_
  cases hw : Oc.white c with
  | true => simp only [rs]; exact hK _ _ ⟨by simp [Oc.regular, hw], rfl⟩
  | false =>
    simp only [rs]
    refine c_eq (rdelim_ret c w) ?_
    simp only [rs]
    exact hK _ _ ⟨by simp [Oc.regular, hw], rfl⟩

abbrev BRow (v : Value) (l : List UInt8) : Ent := .row 5 1 v l.length (bytesV l)
/-- append(out, bytes..): the first piece is the row. -/
theorem o_appB {S : Nat → Prop} {w0 w : World} {L : List Ent} {v : Value} {l m : List UInt8} {parts : Array (Nat × Value)} {n : Nat} {cs : Array Bool} {PK PK2 : List PanicEntry → World → Prop} {K : Value → World → Prop}
    (hm : ∀ w, (mBuildS 73 n parts).run Tryz.prog w = .ok (.value (.slice (some ⟨w.heap.size, 0, none⟩) m.length m.length)) (w.alloc (.cells (bytesV m).toArray 5)))
    (ho : OwnS S w0 w (BRow v l :: L)) (hb : l.length + m.length ≤ 140737488355328) (k : ∀ v' w', OwnS S w0 w' (BRow v' (l ++ m) :: L) → K v' w') :
    DoX Tryz.prog (mBuildS 73 n parts) w PK fun t w => DoX Tryz.prog (mB .append #[73, 73] 73 cs #[v, t]) w PK2 K := by
  refine o_new (fun b => .slice (some ⟨b, 0, none⟩) m.length m.length) (bytesV m) 5 hm ho fun nb w4 h4 => ?_
  refine o_append 1 Tryz.underlying73 (show elB Tryz.prog 5 1 1 = true by kernel_rfl) (by decide) h4 rfl (h4.sl 0 rfl 1 m.length m.length (by rw [bytesV_length, Nat.mul_one])) (bytesV_one _) (by omega) (by omega) fun v' w5 h5 => ?_
  refine k v' w5 ?_
  have e : BRow v' (l ++ m) = .row 5 1 v' (l.length + m.length) (bytesV l ++ bytesV m) := by
    rw [BRow, bytesV_append, List.length_append]
  rw [e]
  exact h5.tail
/-- string(out). -/
theorem o_strB {S : Nat → Prop} {w0 w : World} {L : List Ent} {v : Value} {l : List UInt8} {PK : List PanicEntry → World → Prop} {K : Value → World → Prop} (i : Nat) (ho : OwnS S w0 w L) (hi : L[i]? = some (BRow v l)) :
    DoX Tryz.prog (mConv 73 9 v) w PK K = K (.string ⟨l.toArray⟩) w :=
  c_bytes (l := l) Tryz.underlying73 Tryz.underlying5 Tryz.underlying9 (ho.slRow i hi)
theorem rhex_ret (l : List UInt8) (w : World) (hl : l.length ≤ 1000000) : Ret Tryz.prog 109 #[.string ⟨l.toArray⟩] w (fun v w' => v = .string ⟨(Oc.hex l).toArray⟩ ∧ Below w.heap.size w w') := by
  refine ret_of fun K hK => S_foliantref01_Hex_ok ?_
  unfold S_foliantref01_Hex
  refine loop (fun vs w' => ∃ (i : Nat) (v : Value), vs = [v, .int .i64 i] ∧ i ≤ l.length ∧ Own w w' [BRow v (Oc.hex (l.take i))])
    (fun vs _ => l.length - n1 vs) ⟨0, _, rfl, by omega, (Own.start w).nilRow _ 1⟩ ?_
  rintro vs w2 ⟨i, v, rfl, hi, ho⟩ _
  simp only [S_foliantref01_Hex_0, gd, s_len Tryz.underlying9]
  rw [b_lss]
  by_cases hlt : (i : Int) < (l.length : Int)
  · have hi2 : i < l.length := by omega
    have hc : l[(i : Int).toNat]? = some l[i] := by simp [hi2]
    have h256 := l[i].toNat_lt
    have hd1 : l[i].toNat / 16 < 16 := by omega
    have hd2 : l[i].toNat % 16 < 16 := by omega
    have hq : ((l[i].toNat : Int).tdiv 16) = ((l[i].toNat / 16 : Nat) : Int) := by rw [Int.tdiv_eq_ediv_of_nonneg (by omega)]; omega
    have hr : ((l[i].toNat : Int).tmod 16) = ((l[i].toNat % 16 : Nat) : Int) := by rw [Int.tmod_eq_emod_of_nonneg (by omega)]; omega
    simp only [hlt, decide_true, i_t]
    refine quiet (q_do _ (fun w => run_s_ix Tryz.underlying9 (by omega) hc) (q_do _ (fun w => by rw [r_quo (by omega), hq, wrap8_id (by omega) (by omega)]) (q_do _ (fun w => hexD_get _ hd1 w)
      (q_do _ (fun w => run_s_ix Tryz.underlying9 (by omega) hc) (q_do _ (fun w => by rw [r_rem (by omega), hr]) (q_do _ (fun w => hexD_get _ hd2 w) ?_))))))
    intro w3 hb3
    have hlen := Oc.hex_length (l.take i)
    rw [List.length_take] at hlen
    refine o_appB (m := Oc.hex1 l[i]) (fun _ => by kernel_rfl) (ho.grow hb3) (by simp only [Oc.hex1, List.length_cons, List.length_nil]; omega) fun v' w5 h5 => ?_
    rw [b_add, wrap64_id (by omega) (by omega)]
    refine nextX ⟨i + 1, v', rfl, by omega, ?_⟩ (by simp [n1, intOf]; omega)
    rw [List.take_succ_eq_append_getElem hi2, Oc.hex_snoc]
    exact h5
  · have hi2 : i = l.length := by omega
    subst hi2
    simp only [hlt, decide_false, i_f]
    rw [List.take_length] at ho
    rw [o_strB 0 ho rfl]
    exact hK _ _ ⟨rfl, ho.done⟩
theorem dig_piece : ∀ k : Fin 10, (([48, 49, 50, 51, 52, 53, 54, 55, 56, 57] : List UInt8).drop k.val).take (k.val + 1 - k.val) = [UInt8.ofNat (48 + k.val)] := by decide
theorem decDigits_len (u : Nat) (h : u < 18446744073709551616) : (Lib.decDigits u).length ≤ 20 := by rw [Lib.decDigits_length]; exact Lib.nDigits_le20 u h
theorem rdigits_ret : ∀ (n : Nat) (w : World), n ≤ 9223372036854775807 → Ret Tryz.prog 174 #[.int .i64 n] w (fun v w' => v = .string ⟨(Lib.decDigits n).toArray⟩ ∧ w = w') := by
  intro n
  induction n using Nat.strongRecOn with
  | _ n ih =>
    intro w hn
    refine ret_of fun K hK => S_foliantref04_digits_ok ?_
    unfold S_foliantref04_digits
    have hr : ((n : Int).tmod 10) = ((n % 10 : Nat) : Int) := by rw [Int.tmod_eq_emod_of_nonneg (by omega)]; omega
    have hq : ((n : Int).tdiv 10) = ((n / 10 : Nat) : Int) := by rw [Int.tdiv_eq_ediv_of_nonneg (by omega)]; omega
    simp only [b_rem (show (10 : Int) ≠ 0 by omega), b_quo (show (10 : Int) ≠ 0 by omega), hr, hq, rs]
    rw [wrap64_id (n := ((n % 10 : Nat) : Int) + 1) (by omega) (by omega)]
    change DoX Tryz.prog (mSlice 9 (.string ⟨([48, 49, 50, 51, 52, 53, 54, 55, 56, 57] : List UInt8).toArray⟩) _ _ _) _ _ _
    rw [s_slice Tryz.underlying9 (by omega) (by omega) (by simp only [List.length_cons, List.length_nil]; omega)]
    have hp := dig_piece ⟨n % 10, by omega⟩
    simp only at hp
    rw [show (((n % 10 : Nat) : Int) + 1).toNat = n % 10 + 1 by omega, Int.toNat_natCast, hp]
    by_cases h10 : (n : Int) < 10
    · simp only [h10, decide_true, i_t]
      refine hK _ _ ⟨?_, rfl⟩
      rw [Lib.decDigits, dif_pos (by omega), show n % 10 = n by omega]
    · simp only [h10, decide_false, i_f]
      rw [wrap64_id (by omega) (by omega)]
      refine c_eq (ih (n / 10) (by omega) w (by omega)) ?_
      have hl := decDigits_len (n / 10) (by omega)
      rw [s_add (by simp; omega)]
      refine hK _ _ ⟨?_, rfl⟩
      rw [Lib.decDigits.eq_1 n, dif_neg (by omega)]
theorem rint_ret (n : Int) (w : World) : Ret Tryz.prog 107 #[.int .i64 n] w (fun v w' => v = .tuple #[.string ⟨(Pl.pInt n).1.toArray⟩, .int .i64 (Pl.pInt n).2] ∧ w = w') := by
  refine ret_of fun K hK => S_foliantref04_Int_ok ?_
  unfold S_foliantref04_Int
  by_cases h1 : n < -2147483647
  · simp only [rs, h1, decide_true, g_un]
    exact hK _ _ ⟨by rw [Pl.pInt, if_neg (by omega)], rfl⟩
  simp only [rs, h1, decide_false]
  by_cases h2 : 2147483647 < n
  · simp only [rs, h2, decide_true]
    exact hK _ _ ⟨by rw [Pl.pInt, if_neg (by omega)], rfl⟩
  simp only [rs, h2, decide_false]
  by_cases h3 : n < 0
  · simp only [rs, h3, decide_true]
    rw [wrap64_id (by omega) (by omega)]
    obtain ⟨m, hm⟩ : ∃ m : Nat, -n = m := ⟨(-n).toNat, by omega⟩
    rw [hm]
    refine c_eq (rdigits_ret m w (by omega)) ?_
    have hl := decDigits_len m (by omega)
    change DoX Tryz.prog (mBin .add 9 (.string ⟨([45] : List UInt8).toArray⟩) (.string ⟨(Lib.decDigits m).toArray⟩)) _ _ _
    rw [s_add (by simp; omega)]
    refine hK _ _ ⟨?_, rfl⟩
    rw [Pl.pInt, if_pos (by omega), Lib.itoa, if_pos h3, show n.natAbs = m by omega]
    rfl
  · simp only [rs, h3, decide_false]
    obtain ⟨m, rfl⟩ : ∃ m : Nat, n = m := ⟨n.toNat, by omega⟩
    refine c_eq (rdigits_ret m w (by omega)) ?_
    refine hK _ _ ⟨?_, rfl⟩
    rw [Pl.pInt, if_pos (by omega), Lib.itoa, if_neg h3, Int.toNat_natCast]
theorem rreal_ret (n : Int) (w : World) : Ret Tryz.prog 110 #[.int .i64 n] w (fun v w' => v = .tuple #[.string ⟨(Pl.pReal n).1.toArray⟩, .int .i64 (Pl.pReal n).2] ∧ Below w.heap.size w w') := by
  refine ret_of fun K hK => S_foliantref04_Real_ok ?_
  unfold S_foliantref04_Real
  by_cases h1 : n < -1073741824
  · simp only [rs, h1, decide_true]
    exact hK _ _ ⟨by rw [Pl.pReal, if_neg (by simp [Fx.okB]; omega)], Below.refl _ _⟩
  · simp only [rs, h1, decide_false]
    by_cases h2 : 1073741824 < n
    · simp only [rs, h2, decide_true]
      exact hK _ _ ⟨by rw [Pl.pReal, if_neg (by simp [Fx.okB]; omega)], Below.refl _ _⟩
    · simp only [rs, h2, decide_false]
      refine c_ret (rtext_ret n w) ?_
      rintro _ w' ⟨rfl, hb⟩
      exact hK _ _ ⟨by rw [Pl.pReal, if_pos (by simp [Fx.okB]; omega)], hb⟩
end Go.Proofs.YtiklhhdohckfiaaGreatDoor
/- Contracts: the reference of layer 4: String, Name, Join, Pad. -/
namespace Go.Proofs.YtiklhhdohckfiaaGreatDoor
set_option linter.unusedVariables false
set_option linter.unusedSimpArgs false
set_option linter.defProp false
open Eng Go.RowKit

theorem rstr_ret (l : List UInt8) (w : World) (hl : l.length ≤ 1000000) : Ret Tryz.prog 111 #[.string ⟨l.toArray⟩] w (fun v w' => v = .tuple #[.string ⟨(Pl.pStr l).1.toArray⟩, .int .i64 (Pl.pStr l).2] ∧ Below w.heap.size w w') := by
  refine ret_of fun K hK => S_foliantref04_String_ok ?_
  unfold S_foliantref04_String
  rw [s_len Tryz.underlying9, b_gtr]
  by_cases h1 : (32767 : Int) < l.length
  · simp only [rs, h1, decide_true]
    exact hK _ _ ⟨by rw [Pl.pStr, if_pos (by omega)], Below.refl _ _⟩
  simp only [rs, h1, decide_false]
  refine o_new (fun b => .slice (some ⟨b, 0, none⟩) 1 1) (bytesV [40]) 5 (fun _ => by kernel_rfl) (Own.start w) fun nb w1 ho1 => ?_
  have ho := OwnS.toRow ho1 1 1 1 rfl (by omega) (by omega)
  refine loop (fun vs w' => ∃ (i : Nat) (v : Value), vs = [v, .int .i64 i] ∧ i ≤ l.length ∧ Own w w' [BRow v ([40] ++ (l.take i).flatMap Pl.esc)])
    (fun vs _ => l.length - n1 vs) ⟨0, _, rfl, by omega, by simpa [BRow, bytesV] using ho⟩ ?_
  rintro vs w2 ⟨i, v, rfl, hi, ho2⟩ _
  simp only [S_foliantref04_String_0, gd, s_len Tryz.underlying9]
  rw [b_lss]
  have hfl := Pl.flat_len Pl.esc 4 (fun c => (Pl.esc_len c).2) (l.take i)
  have htk : (l.take i).length ≤ l.length := by rw [List.length_take]; omega
  have hbd : ([40] ++ (l.take i).flatMap Pl.esc).length ≤ 140000 := by simp only [List.length_append, List.length_cons, List.length_nil]; omega
  by_cases hlt : (i : Int) < (l.length : Int)
  · have hi2 : i < l.length := by omega
    simp only [hlt, decide_true, i_t]
    refine join fun J2 hJ2 => ?_
    rw [s_ix (c := l[i]) Tryz.underlying9 (by omega) (by simp [hi2])]
    have fin : ∀ (v' : Value) (w' : World), Own w w' [BRow v' ([40] ++ (l.take i).flatMap Pl.esc ++ Pl.esc l[i])] → J2 [v'] w' := by
      intro v' w' h'
      refine hJ2 _ _ fun _ => ?_
      simp only [S_foliantref04_String_2, gd]
      rw [b_add, wrap64_id (by omega) (by omega)]
      refine nextX ⟨i + 1, v', rfl, by omega, ?_⟩ (by simp [n1, intOf]; omega)
      rw [List.take_succ_eq_append_getElem hi2, Pl.flat_snoc, ← List.append_assoc]
      exact h'
    generalize hc : l[i] = c at *
    have h256 := c.toNat_lt
    have oct : ¬ (c = 40 ∨ c = 41 ∨ c = 92) → (c.toNat < 32 ∨ 126 < c.toNat) →
        DoX Tryz.prog (mBin .quo 5 (.int .u8 c.toNat) (.int .u8 64)) w2 (pk K) fun t28 w =>
        DoX Tryz.prog (mBin .add 5 (.int .u8 48) t28) w (pk K) fun t29 w =>
        DoX Tryz.prog (mBin .quo 5 (.int .u8 c.toNat) (.int .u8 8)) w (pk K) fun t31 w =>
        DoX Tryz.prog (mBin .rem 5 t31 (.int .u8 8)) w (pk K) fun t32 w =>
        DoX Tryz.prog (mBin .add 5 (.int .u8 48) t32) w (pk K) fun t33 w =>
        DoX Tryz.prog (mBin .rem 5 (.int .u8 c.toNat) (.int .u8 8)) w (pk K) fun t35 w =>
        DoX Tryz.prog (mBin .add 5 (.int .u8 48) t35) w (pk K) fun t36 w =>
        DoX Tryz.prog (mBuildS 73 4 #[(0, (.int .u8 92)), (1, t29), (2, t33), (3, t36)]) w (pk K) fun t37 w =>
        DoX Tryz.prog (mB .append #[73, 73] 73 #[false, false] #[v, t37]) w (pk K) fun t38 w =>
        J2 [t38] w := by
      intro hn hcc
      have q64 : ((c.toNat : Int).tdiv 64) = ((c.toNat / 64 : Nat) : Int) := by rw [Int.tdiv_eq_ediv_of_nonneg (by omega)]; omega
      have q8 : ((c.toNat : Int).tdiv 8) = ((c.toNat / 8 : Nat) : Int) := by rw [Int.tdiv_eq_ediv_of_nonneg (by omega)]; omega
      have r8 : ((c.toNat : Int).tmod 8) = ((c.toNat % 8 : Nat) : Int) := by rw [Int.tmod_eq_emod_of_nonneg (by omega)]; omega
      have qr : (((c.toNat / 8 : Nat) : Int).tmod 8) = ((c.toNat / 8 % 8 : Nat) : Int) := by rw [Int.tmod_eq_emod_of_nonneg (by omega)]; omega
      rw [b_quo (by omega), q64, wrap8_id (by omega) (by omega), b_add, wrap8_id (by omega) (by omega), b_quo (by omega), q8, wrap8_id (by omega) (by omega), b_rem (by omega), qr, b_add, wrap8_id (by omega) (by omega), b_rem (by omega), r8, b_add, wrap8_id (by omega) (by omega)]
      rw [show ((48 : Int) + ((c.toNat / 64 : Nat) : Int)) = ((48 + c.toNat / 64 : Nat) : Int) by omega, show ((48 : Int) + ((c.toNat / 8 % 8 : Nat) : Int)) = ((48 + c.toNat / 8 % 8 : Nat) : Int) by omega, show ((48 : Int) + ((c.toNat % 8 : Nat) : Int)) = ((48 + c.toNat % 8 : Nat) : Int) by omega]
      rw [← u8_of (48 + c.toNat / 64) (by omega), ← u8_of (48 + c.toNat / 8 % 8) (by omega), ← u8_of (48 + c.toNat % 8) (by omega)]
      refine o_appB (m := Pl.oct c) (fun _ => by kernel_rfl) ho2 (by simp only [Pl.oct, List.length_cons, List.length_nil]; omega) fun v' w5 h5 => ?_
      refine fin v' w5 ?_
      rw [show Pl.esc c = Pl.oct c by rw [Pl.esc, if_neg hn, if_pos hcc]]
      exact h5
    have plainc : ∀ (l' : List UInt8) (v' : Value) (w' : World), Own w w' [BRow v' ([40] ++ (l.take i).flatMap Pl.esc ++ l')] → l'.length ≤ 1 → l' ++ [c] = Pl.esc c → S_foliantref04_String_1 v' (.int .u8 c.toNat) w' J2 K := by
      intro l' v' w' h' hl' he
      simp only [S_foliantref04_String_1]
      refine o_appB (m := [c]) (fun _ => by kernel_rfl) h' (by simp only [List.length_append, List.length_cons, List.length_nil] at hbd ⊢; omega) fun v2 w5 h5 => ?_
      refine fin v2 w5 ?_
      rw [← he, ← List.append_assoc]
      exact h5
    by_cases h2 : (c.toNat : Int) < 32
    · simp only [rs, h2, decide_true, g_un]
      have := oct (by rintro (rfl | rfl | rfl) <;> simp at h2) (.inl (by omega))
      simpa only [rs] using this
    simp only [rs, h2, decide_false, g_un]
    by_cases h3 : (126 : Int) < (c.toNat : Int)
    · simp only [rs, h3, decide_true, g_un]
      have := oct (by rintro (rfl | rfl | rfl) <;> simp at h3) (.inr (by omega))
      simpa only [rs] using this
    simp only [rs, h3, decide_false, g_un]
    refine join fun J3 hJ3 => ?_
    have two : (c = 40 ∨ c = 41 ∨ c = 92) → DoX Tryz.prog (mBuildS 73 1 #[(0, (.int .u8 92))]) w2 (pk K) fun t50 w =>
        DoX Tryz.prog (mB .append #[73, 73] 73 #[false, false] #[v, t50]) w (pk K) fun t51 w => J3 [t51] w := by
      intro hcc
      refine o_appB (m := [92]) (fun _ => by kernel_rfl) ho2 (by simp only [List.length_cons, List.length_nil]; omega) fun v' w5 h5 => ?_
      refine hJ3 _ _ fun _ => ?_
      simp only [gd]
      exact plainc [92] v' w5 h5 (by simp) (by rw [Pl.esc, if_pos hcc]; rfl)
    have e1 := u8d c 40 40 rfl
    have e2 := u8d c 41 41 rfl
    have e3 := u8d c 92 92 rfl
    by_cases g1 : c = 40
    · simp only [rs, e1, decide_eq_true g1, g_un]; exact two (.inl g1)
    simp only [rs, e1, decide_eq_false g1, g_un]
    by_cases g2 : c = 41
    · simp only [rs, e2, decide_eq_true g2, g_un]; exact two (.inr (.inl g2))
    simp only [rs, e2, decide_eq_false g2, g_un]
    by_cases g3 : c = 92
    · simp only [rs, e3, decide_eq_true g3, g_un]; exact two (.inr (.inr g3))
    simp only [rs, e3, decide_eq_false g3, g_un]
    refine hJ3 _ _ fun _ => ?_
    simp only [gd]
    exact plainc [] v w2 (by rw [List.append_nil]; exact ho2) (by simp) (by rw [Pl.esc, if_neg (by simp [g1, g2, g3]), if_neg (by omega)]; rfl)
  · have hi2 : i = l.length := by omega
    subst hi2
    simp only [hlt, decide_false, i_f]
    rw [List.take_length] at ho2 hbd
    refine o_appB (m := [41]) (fun _ => by kernel_rfl) ho2 (by simp only [List.length_cons, List.length_nil]; omega) fun v' w5 h5 => ?_
    rw [o_strB 0 h5 rfl]
    exact hK _ _ ⟨by rw [Pl.pStr, if_neg (by omega)]; rfl, h5.done⟩
theorem rname_ret (l : List UInt8) (w : World) : Ret Tryz.prog 56 #[.string ⟨l.toArray⟩] w (fun v w' => v = .tuple #[.string ⟨(Pl.pName l).1.toArray⟩, .int .i64 (Pl.pName l).2] ∧ Below w.heap.size w w') := by
  refine ret_of fun K hK => S_foliantref04_Name_ok ?_
  unfold S_foliantref04_Name
  rw [s_len Tryz.underlying9, b_gtr]
  by_cases h1 : (127 : Int) < l.length
  · simp only [rs, h1, decide_true]
    exact hK _ _ ⟨by rw [Pl.pName, if_pos (by omega)], Below.refl _ _⟩
  simp only [rs, h1, decide_false]
  change LoopX [.string ⟨([47] : List UInt8).toArray⟩, _] _ _
  refine loop (fun vs w' => ∃ (i : Nat), vs = [.string ⟨([47] ++ (l.take i).flatMap Pl.nmc).toArray⟩, .int .i64 i] ∧ i ≤ l.length ∧ (l.take i).contains 0 = false ∧ Below w.heap.size w w')
    (fun vs _ => l.length - n1 vs) ⟨0, rfl, by omega, rfl, Below.refl _ _⟩ ?_
  rintro vs w2 ⟨i, rfl, hi, h0, hb2⟩ _
  simp only [S_foliantref04_Name_0, gd, s_len Tryz.underlying9]
  rw [b_lss]
  have hfl := Pl.flat_len Pl.nmc 4 (fun c => Nat.le_trans (Pl.nmc_len c).2 (by omega)) (l.take i)
  have htk : (l.take i).length ≤ l.length := by rw [List.length_take]; omega
  have hbd : ([47] ++ (l.take i).flatMap Pl.nmc).length ≤ 140000 := by simp only [List.length_append, List.length_cons, List.length_nil]; omega
  by_cases hlt : (i : Int) < (l.length : Int)
  · have hi2 : i < l.length := by omega
    simp only [hlt, decide_true, i_t]
    refine join fun J2 hJ2 => ?_
    rw [s_ix (c := l[i]) Tryz.underlying9 (by omega) (by simp [hi2])]
    have e0 := u8d l[i] 0 0 rfl
    rw [e_int]
    by_cases hz : l[i] = 0
    · simp only [e0, decide_eq_true hz, i_t]
      refine hK _ _ ⟨?_, hb2⟩
      have : l.contains 0 = true := by rw [List.contains_iff_mem, ← hz]; exact List.getElem_mem hi2
      rw [Pl.pName, if_neg (by omega), if_pos this]
    simp only [e0, decide_eq_false hz, i_f]
    have hz2 : (l.take (i + 1)).contains 0 = false := by
      rw [List.take_succ_eq_append_getElem hi2]
      simp only [List.contains_eq_mem, decide_eq_false_iff_not, List.mem_append, List.mem_singleton, not_or] at h0 ⊢
      exact ⟨h0, fun e => hz e.symm⟩
    have fin : ∀ (w' : World), Below w.heap.size w w' → J2 [.string ⟨([47] ++ (l.take i).flatMap Pl.nmc ++ Pl.nmc l[i]).toArray⟩] w' := by
      intro w' h'
      refine hJ2 _ _ fun _ => ?_
      simp only [S_foliantref04_Name_1, gd]
      rw [b_add, wrap64_id (by omega) (by omega)]
      refine nextX ⟨i + 1, ?_, by omega, hz2, h'⟩ (by simp [n1, intOf]; omega)
      rw [List.take_succ_eq_append_getElem hi2, Pl.flat_snoc, ← List.append_assoc]
      rfl
    have hsl : ∀ {PK K}, DoX Tryz.prog (mSlice 9 (.string ⟨l.toArray⟩) (some (.int .i64 (i : Int))) (some (.int .i64 ((i : Int) + 1))) none) w2 PK K = K (.string ⟨([l[i]] : List UInt8).toArray⟩) w2 := by
      intro PK K
      rw [s_slice Tryz.underlying9 (by omega) (by omega) (by omega), Int.toNat_natCast, show ((i : Int) + 1).toNat - i = 1 by omega, List.drop_eq_getElem_cons hi2]
      rfl
    generalize hc : l[i] = c at *
    have no : Pl.nmOk c = false → DoX Tryz.prog (mBin .add 3 (.int .i64 (i : Int)) (.int .i64 1)) w2 (pk K) fun t39 w =>
        DoX Tryz.prog (mSlice 9 (.string ⟨l.toArray⟩) (some (.int .i64 (i : Int))) (some t39) none) w (pk K) fun t40 w =>
        CallX Tryz.prog 109 #[t40] w (pk K) fun t41 w =>
        DoX Tryz.prog (mBin .add 9 (.string ⟨#[35]⟩) t41) w (pk K) fun t42 w =>
        DoX Tryz.prog (mBin .add 9 (.string ⟨([47] ++ (l.take i).flatMap Pl.nmc).toArray⟩) t42) w (pk K) fun t43 w =>
        J2 [t43] w := by
      intro hn
      rw [b_add, wrap64_id (by omega) (by omega), hsl]
      refine c_ret (rhex_ret [c] w2 (by simp)) ?_
      rintro _ w3 ⟨rfl, hb3⟩
      have hx := Oc.hex_length [c]
      change DoX Tryz.prog (mBin .add 9 (.string ⟨([35] : List UInt8).toArray⟩) (.string ⟨(Oc.hex [c]).toArray⟩)) _ _ _
      simp only [List.length_cons, List.length_nil] at hx
      rw [s_add (by simp; omega), s_add (by simp only [List.length_append, List.length_cons, List.length_nil] at hbd ⊢; omega)]
      have := fin w3 (hb2.trans (hb3.mono hb2.size))
      rw [Pl.nmc, if_neg (by simp [hn])] at this
      exact this
    have yes : Pl.nmOk c = true → DoX Tryz.prog (mBin .add 3 (.int .i64 (i : Int)) (.int .i64 1)) w2 (pk K) fun t48 w =>
        DoX Tryz.prog (mSlice 9 (.string ⟨l.toArray⟩) (some (.int .i64 (i : Int))) (some t48) none) w (pk K) fun t49 w =>
        DoX Tryz.prog (mBin .add 9 (.string ⟨([47] ++ (l.take i).flatMap Pl.nmc).toArray⟩) t49) w (pk K) fun t50 w =>
        J2 [t50] w := by
      intro hn
      rw [b_add, wrap64_id (by omega) (by omega), hsl, s_add (by simp only [List.length_append, List.length_cons, List.length_nil] at hbd ⊢; omega)]
      have := fin w2 hb2
      rw [Pl.nmc, if_pos hn] at this
      exact this
    rw [b_lss]
    by_cases g1 : (c.toNat : Int) < 33
    · simp only [g1, decide_true, g_tf, g_un, p_t, i_t]
      exact no (by simp [Pl.nmOk]; omega)
    simp only [g1, decide_false, g_ff, p_f]
    rw [b_gtr]
    by_cases g2 : (126 : Int) < (c.toNat : Int)
    · simp only [g2, decide_true, g_tf, g_un, p_t, i_t]
      exact no (by simp [Pl.nmOk]; omega)
    simp only [g2, decide_false, g_ff, p_f]
    rw [e_int]
    have e35 := u8d c 35 35 rfl
    by_cases g3 : c = 35
    · simp only [e35, decide_eq_true g3, g_tf, g_un, p_t, i_t]
      exact no (by simp [Pl.nmOk, g3])
    simp only [e35, decide_eq_false g3, g_ff, p_f]
    refine c_eq (rdelim_ret c w2) ?_
    cases hd : Oc.delim c with
    | true => simp only [p_f, i_t]; exact no (by simp [Pl.nmOk, hd])
    | false => simp only [p_f, i_f]; exact yes (by simp [Pl.nmOk, hd, g3]; omega)
  · have hi2 : i = l.length := by omega
    subst hi2
    simp only [hlt, decide_false, i_f]
    rw [List.take_length] at h0 ⊢
    exact hK _ _ ⟨by rw [Pl.pName, if_neg (by omega), if_neg (by simp at h0; simp [h0])]; rfl, hb2⟩
theorem rjoin_ret (ps : List (List UInt8)) (v : Value) (w : World) (hs : Sl w v 1 ps.length (strsV ps)) (hb : Pl.tot ps ≤ 1000000000000) :
    Ret Tryz.prog 50 #[v] w (fun r w' => r = .string ⟨(Pl.join ps).toArray⟩ ∧ w = w') := by
  refine ret_of fun K hK => S_foliantref04_Join_ok ?_
  unfold S_foliantref04_Join
  rw [sl_len Tryz.underlying22 hs]
  have hlen := Pl.length_tot ps
  change LoopX [.string ⟨([] : List UInt8).toArray⟩, _] _ _
  refine loop (fun vs w' => ∃ (i : Nat), vs = [.string ⟨(Pl.join (ps.take i)).toArray⟩, .int .i64 i] ∧ i ≤ ps.length ∧ w = w')
    (fun vs _ => ps.length - n1 vs) ⟨0, rfl, by omega, rfl⟩ ?_
  rintro vs w2 ⟨i, rfl, hi, rfl⟩ _
  simp only [S_foliantref04_Join_0, gd]
  rw [b_lss]
  by_cases hlt : (i : Int) < (ps.length : Int)
  · have hi2 : i < ps.length := by omega
    simp only [hlt, decide_true, i_t]
    have hgt := Pl.get_tot ps i hi2
    have hjl := Pl.join_len (ps.take i)
    have hnext : Pl.join (ps.take (i + 1)) = Pl.glue (Pl.join (ps.take i)) ps[i] := by rw [List.take_succ_eq_append_getElem hi2, Pl.join_snoc]
    have hacc : ∃ acc, Pl.join (ps.take i) = acc := ⟨_, rfl⟩
    obtain ⟨acc, hacc⟩ := hacc
    rw [hacc] at hjl hnext ⊢
    refine sl_ia1 (.string ⟨ps[i].toArray⟩) Tryz.underlying22 (by kernel_rfl) hs (by omega) (by rw [Int.toNat_natCast]; exact strsV_get hi2) fun p hp => ?_
    rw [l_cell (by kernel_rfl) hp]
    refine join fun J2 hJ2 => ?_
    have fin : ∀ (acc' : List UInt8), acc'.length ≤ acc.length + 1 → acc' ++ ps[i] = Pl.glue acc ps[i] → J2 [.string ⟨acc'.toArray⟩] w := by
      intro acc' hl' he
      refine hJ2 _ _ fun _ => ?_
      simp only [S_foliantref04_Join_1, gd]
      rw [s_add (by omega), b_add, wrap64_id (by omega) (by omega)]
      refine nextX ⟨i + 1, by rw [hnext, ← he]; rfl, by omega, rfl⟩ (by simp [n1, intOf]; omega)
    change DoX Tryz.prog (mEq .neq _ _ _ _ (.string ⟨([] : List UInt8).toArray⟩)) _ _ _
    rw [n_str]
    by_cases hp0 : ps[i] = []
    · have hd : decide (ps[i] ≠ []) = false := decide_eq_false (by simp [hp0])
      simp only [hd, rs, g_un]
      exact fin acc (by omega) (by rw [hp0, Pl.glue_nil, List.append_nil])
    have hd : decide (ps[i] ≠ []) = true := decide_eq_true hp0
    simp only [hd, rs]
    obtain ⟨c, t, hct⟩ : ∃ c t, ps[i] = c :: t := by
      cases h : ps[i] with
      | nil => exact absurd h hp0
      | cons c t => exact ⟨c, t, rfl⟩
    have skip : ((Oc.regular (Pl.lastC acc) || decide (Pl.lastC acc = 47)) && Oc.regular c) = false → J2 [.string ⟨acc.toArray⟩] w := by
      intro hc
      refine fin acc (by omega) ?_
      rw [hct]
      simp only [Pl.glue]
      rw [if_neg (by simp [hc])]
    have put : ((Oc.regular (Pl.lastC acc) || decide (Pl.lastC acc = 47)) && Oc.regular c) = true → DoX Tryz.prog (mBin .add 9 (.string ⟨acc.toArray⟩) (.string ⟨#[32]⟩)) w (pk K) fun t36 w => J2 [t36] w := by
      intro hc
      change DoX Tryz.prog (mBin .add _ _ (.string ⟨([32] : List UInt8).toArray⟩)) _ _ _
      rw [s_add (by simp; omega)]
      refine fin _ (by simp) ?_
      rw [hct]
      simp only [Pl.glue]
      rw [if_pos hc]
    by_cases ha : acc = []
    · have hd2 : decide (acc ≠ []) = false := decide_eq_false (by simp [ha])
      simp only [hd2, rs, g_un]
      exact skip (by rw [ha]; simp [Pl.lastC_nil]; intro h; exact absurd h (by decide))
    have hd2 : decide (acc ≠ []) = true := decide_eq_true ha
    simp only [hd2, rs]
    rw [s_ix (c := c) Tryz.underlying9 (by omega) (by rw [hct]; rfl)]
    refine c_eq (rregular_ret c w) ?_
    cases hc : Oc.regular c with
    | false => simp only [rs]; exact skip (by simp [hc])
    | true =>
      simp only [rs]
      rw [s_len Tryz.underlying9]
      have hpos : 0 < acc.length := List.length_pos_iff.2 ha
      rw [b_sub, wrap64_id (by omega) (by omega), s_ix (c := Pl.lastC acc) Tryz.underlying9 (by omega) (by
        rw [show (((acc.length : Nat) : Int) - 1).toNat = acc.length - 1 by omega]
        exact Pl.last_get _ ha)]
      have e47 := u8d (Pl.lastC acc) 47 47 rfl
      by_cases h47 : Pl.lastC acc = 47
      · simp only [rs, e47, decide_eq_true h47, g_un]
        exact put (by simp [h47, hc])
      simp only [rs, e47, decide_eq_false h47]
      refine c_eq (rregular_ret _ w) ?_
      cases hr : Oc.regular (Pl.lastC acc) with
      | true => simp only [rs]; exact put (by simp [hr, hc])
      | false => simp only [rs]; exact skip (by simp [hr, h47])
  · have hi2 : i = ps.length := by omega
    subst hi2
    simp only [hlt, decide_false, i_f]
    rw [List.take_length]
    exact hK _ _ ⟨rfl, rfl⟩
end Go.Proofs.YtiklhhdohckfiaaGreatDoor
/- Plain mathematics of layers 1 and 3: white space and comments, hexadecimal digits; no program in sight. -/
namespace Go.Proofs.YtiklhhdohckfiaaGreatDoor
set_option linter.unusedVariables false
set_option linter.unusedSimpArgs false
set_option linter.defProp false
open Go
namespace Lx
open Oc
def eol (c : UInt8) : Bool := decide (c = 13) || decide (c = 10)
/-- How many bytes of white space and comments stand ahead (true: within a comment). -/
def skipF : Bool → List UInt8 → Nat
  | _, [] => 0
  | true, c :: t => 1 + skipF (!eol c) t
  | false, c :: t => if c = 37 then 1 + skipF true t else if white c then 1 + skipF false t else 0
def skip (s : List UInt8) (k : Nat) : Nat := k + skipF false (s.drop k)
def skipI (s : List UInt8) (k : Int) : Int := if k < 0 ∨ (s.length : Int) < k then k else ((skip s k.toNat : Nat) : Int)
def lineF : List UInt8 → Nat
  | [] => 0
  | c :: t => if c = 10 then 1 else if c = 13 then (if t.head? = some 10 then 2 else 1) else 1 + lineF t
def line (s : List UInt8) (k : Nat) : Nat := k + lineF (s.drop k)
theorem skipF_le : ∀ (b : Bool) (l : List UInt8), skipF b l ≤ l.length
  | _, [] => by simp [skipF]
  | true, c :: t => by have := skipF_le (!eol c) t; simp only [skipF, List.length_cons]; omega
  | false, c :: t => by
    have h1 := skipF_le true t
    have h2 := skipF_le false t
    simp only [skipF, List.length_cons]
    split
    · omega
    · split <;> omega
theorem lineF_le : ∀ l : List UInt8, lineF l ≤ l.length
  | [] => by simp [lineF]
  | c :: t => by
    have := lineF_le t
    simp only [lineF, List.length_cons]
    split
    · omega
    · split
      · split
        · rename_i h
          cases t with
          | nil => cases h
          | cons d t => simp
        · omega
      · omega
theorem lineF_pos (c : UInt8) (t : List UInt8) : 1 ≤ lineF (c :: t) := by
  simp only [lineF]
  split
  · omega
  · split
    · split <;> omega
    · omega
theorem skip_le (s : List UInt8) {k : Nat} (h : k ≤ s.length) : skip s k ≤ s.length := by
  have := skipF_le false (s.drop k)
  rw [List.length_drop] at this
  unfold skip; omega
theorem drop_cons {s : List UInt8} {i : Nat} (h : i < s.length) : s.drop i = s[i] :: s.drop (i + 1) := List.drop_eq_getElem_cons h
/-- A comment ends with its line. -/
theorem skipF_line : ∀ l : List UInt8, skipF true l = lineF l + skipF false (l.drop (lineF l))
  | [] => by simp [skipF, lineF]
  | c :: t => by
    have ih := skipF_line t
    by_cases h1 : c = 10
    · subst h1
      simp [skipF, lineF, eol]
    · by_cases h2 : c = 13
      · subst h2
        simp only [skipF, lineF, eol, h1, decide_true, Bool.true_or, Bool.not_true, if_true, if_false]
        cases t with
        | nil => simp [skipF]
        | cons d t =>
          by_cases h3 : d = 10
          · subst h3
            simp [skipF, white, whites]
            omega
          · have : ¬ (some d = some 10) := by simpa using h3
            simp [this]
      · have he : eol c = false := by simp [eol, h1, h2]
        simp only [skipF, lineF, he, h1, h2, Bool.not_false, if_false]
        rw [ih, Nat.add_comm 1 (lineF t), List.drop_succ_cons]; omega
/- HEXADECIMAL DIGITS -/
def digit (c : UInt8) : Int :=
  if 48 ≤ c.toNat ∧ c.toNat ≤ 57 then (c.toNat : Int) - 48
  else if 65 ≤ c.toNat ∧ c.toNat ≤ 70 then (c.toNat : Int) - 65 + 10
  else if 97 ≤ c.toNat ∧ c.toNat ≤ 102 then (c.toNat : Int) - 97 + 10
  else -1
theorem digit_bd (c : UInt8) : -1 ≤ digit c ∧ digit c ≤ 15 := by
  unfold digit
  split
  · omega
  · split
    · omega
    · split <;> omega
def byte (a b : Int) : UInt8 := UInt8.ofNat (16 * a + b).toNat
def unhex : List UInt8 → Option (List UInt8)
  | [] => some []
  | [_] => none
  | a :: b :: t => if digit a < 0 ∨ digit b < 0 then none else (unhex t).map (byte (digit a) (digit b) :: ·)
def unhexE (l : List UInt8) : List UInt8 × Int := match unhex l with | some x => (x, 0) | none => ([], 3)
end Lx
end Go.Proofs.YtiklhhdohckfiaaGreatDoor
/- Plain mathematics of layer 3: tokens; no program in sight. -/
namespace Go.Proofs.YtiklhhdohckfiaaGreatDoor
set_option linter.unusedVariables false
set_option linter.unusedSimpArgs false
set_option linter.defProp false
open Go
namespace Lx
open Oc
structure Tok where
  k : Int
  a : Int
  t : Int
  n : Int
  s : List UInt8
  deriving DecidableEq
def none_ : Tok := ⟨0, 0, 0, 0, []⟩
def refused (e : Int) : Tok × Int := (none_, e)
def told (k a t : Int) (x : List UInt8) (most : Int) : Tok × Int := if most < (x.length : Int) then refused 5 else (⟨k, a, t, 0, x⟩, 0)
def runF : List UInt8 → Nat
  | [] => 0
  | c :: t => if regular c then 1 + runF t else 0
def run (s : List UInt8) (i : Nat) : Nat := i + runF (s.drop i)
theorem runF_le : ∀ l : List UInt8, runF l ≤ l.length
  | [] => by simp [runF]
  | c :: t => by
    have := runF_le t
    simp only [runF, List.length_cons]
    split <;> omega
theorem run_le (s : List UInt8) {k : Nat} (h : k ≤ s.length) : run s k ≤ s.length := by
  have := runF_le (s.drop k)
  rw [List.length_drop] at this
  unfold run; omega
/-- The bytes from i to j. -/
def cut (s : List UInt8) (i j : Nat) : List UInt8 := (s.drop i).take (j - i)
/- NAMES -/
def nameF : List UInt8 → Option (List UInt8)
  | [] => some []
  | c :: t =>
    if c = 35 then match t with
      | a :: b :: t => if digit a < 0 ∨ digit b < 0 ∨ 16 * digit a + digit b = 0 then none else (nameF t).map (byte (digit a) (digit b) :: ·)
      | _ => none
    else (nameF t).map (c :: ·)
theorem nameF_ne {c : UInt8} {t : List UInt8} (h : ¬ c = 35) : nameF (c :: t) = (nameF t).map (c :: ·) := by
  cases t with
  | nil => simp [nameF, h]
  | cons a t => cases t <;> simp [nameF, h]
def name (s : List UInt8) (at_ : Nat) : Tok × Int :=
  match nameF (cut s (at_ + 1) (run s (at_ + 1))) with
  | none => refused 3
  | some x => told 4 at_ (run s (at_ + 1)) x 127
/- LITERAL STRINGS -/
def oct (c : UInt8) : Bool := decide (48 ≤ c.toNat) && decide (c.toNat ≤ 55)
def octF : Nat → Nat → List UInt8 → Nat × Nat
  | 0, n, _ => (n, 0)
  | _ + 1, n, [] => (n, 0)
  | m + 1, n, c :: t => if oct c then ((octF m (8 * n + (c.toNat - 48)) t).1, (octF m (8 * n + (c.toNat - 48)) t).2 + 1) else (n, 0)
def escL (c : UInt8) : Option UInt8 := if c = 110 then some 10 else if c = 114 then some 13 else if c = 116 then some 9 else if c = 98 then some 8 else if c = 102 then some 12 else none
def escF : List UInt8 → List UInt8 × Nat
  | [] => ([], 0)
  | c :: t => match escL c with
    | some b => ([b], 1)
    | none => if eol c then ([], lineF (c :: t)) else if 0 < (octF 3 0 (c :: t)).2 then ([UInt8.ofNat (octF 3 0 (c :: t)).1], (octF 3 0 (c :: t)).2) else ([c], 1)
/-- What a literal string says, and how many bytes it takes (some are to be left out first). -/
def textG : Nat → Nat → List UInt8 → Option (List UInt8 × Nat)
  | _, _, [] => none
  | k + 1, o, _ :: t => (textG k o t).map fun r => (r.1, r.2 + 1)
  | 0, o, c :: t =>
    if eol c then (textG (lineF (c :: t) - 1) o t).map fun r => (10 :: r.1, r.2 + 1)
    else if c = 92 then if t = [] then none else (textG (escF t).2 o t).map fun r => ((escF t).1 ++ r.1, r.2 + 1)
    else if c = 40 then (textG 0 (o + 1) t).map fun r => (c :: r.1, r.2 + 1)
    else if c = 41 then if o ≤ 1 then some ([], 1) else (textG 0 (o - 1) t).map fun r => (c :: r.1, r.2 + 1)
    else (textG 0 o t).map fun r => (c :: r.1, r.2 + 1)
theorem textG_skip : ∀ (k o : Nat) (l : List UInt8), k ≤ l.length → textG k o l = (textG 0 o (l.drop k)).map fun r => (r.1, r.2 + k)
  | 0, o, l, _ => by simp
  | k + 1, o, [], h => by simp at h
  | k + 1, o, c :: t, h => by
    have ih := textG_skip k o t (by simpa using h)
    simp only [textG, ih, List.drop_succ_cons, Option.map_map]
    congr 1
theorem octF_le : ∀ (m n : Nat) (l : List UInt8), (octF m n l).2 ≤ l.length ∧ (octF m n l).2 ≤ m
  | 0, n, l => by simp [octF]
  | m + 1, n, [] => by simp [octF]
  | m + 1, n, c :: t => by
    have := octF_le m (8 * n + (c.toNat - 48)) t
    simp only [octF]
    split <;> simp <;> omega
theorem escF_le (l : List UInt8) : (escF l).2 ≤ l.length := by
  cases l with
  | nil => simp [escF]
  | cons c t =>
    simp only [escF]
    split
    · simp
    · split
      · exact lineF_le _
      · split
        · exact (octF_le _ _ _).1
        · simp
def text (s : List UInt8) (at_ : Nat) : Tok × Int :=
  match textG 0 1 (s.drop (at_ + 1)) with
  | none => refused 4
  | some r => told 3 at_ (at_ + 1 + r.2 : Nat) r.1 32767
/- HEXADECIMAL STRINGS -/
def hexF : Int → List UInt8 → (List UInt8 × Nat) ⊕ Int
  | _, [] => .inr 4
  | h, c :: t =>
    if c = 62 then .inl (if 0 ≤ h then [byte h 0] else [], 1)
    else if white c then match hexF h t with | .inl r => .inl (r.1, r.2 + 1) | .inr e => .inr e
    else if digit c < 0 then .inr 3
    else if h < 0 then match hexF (digit c) t with | .inl r => .inl (r.1, r.2 + 1) | .inr e => .inr e
    else match hexF (-1) t with | .inl r => .inl (byte h (digit c) :: r.1, r.2 + 1) | .inr e => .inr e
def hex (s : List UInt8) (at_ : Nat) : Tok × Int :=
  match hexF (-1) (s.drop (at_ + 1)) with
  | .inr e => refused e
  | .inl r => told 3 at_ (at_ + 1 + r.2 : Nat) r.1 32767
/- WORDS -/
def sgn (c : UInt8) : Bool := decide (c = 43) || decide (c = 45)
def dig (c : UInt8) : Bool := decide (48 ≤ c.toNat) && decide (c.toNat ≤ 57)
def unsign : List UInt8 → List UInt8
  | [] => []
  | c :: t => if sgn c then t else c :: t
def intForm (t : List UInt8) : Bool := !(unsign t).isEmpty && (unsign t).all dig
def val (n : Nat) (l : List UInt8) : Nat := l.foldl (fun n c => 10 * n + (c.toNat - 48)) n
def whole (t : List UInt8) : Int × Int :=
  if 2147483647 < val 0 (unsign t) then (0, 2) else (if t.head? = some 45 then -(val 0 (unsign t) : Int) else (val 0 (unsign t) : Int), 0)
def wordT (t : List UInt8) (a b : Int) : Tok × Int :=
  if intForm t then (if (whole t).2 ≠ 0 then refused (whole t).2 else (⟨1, a, b, (whole t).1, []⟩, 0))
  else if t.contains 46 ∧ (Fx.read t).2 = 0 then (⟨2, a, b, (Fx.read t).1, []⟩, 0)
  else if t.contains 46 ∧ (Fx.read t).2 = 2 then refused 2
  else told 5 a b t 127
def word (s : List UInt8) (at_ : Nat) : Tok × Int := wordT (cut s at_ (run s at_)) at_ (run s at_)
/- TOKENS -/
def mark (s : List UInt8) (at_ n : Nat) : Tok × Int := (⟨6, at_, (at_ + n : Nat), 0, cut s at_ (at_ + n)⟩, 0)
def token (s : List UInt8) (a : Nat) : Tok × Int :=
  match s.drop a with
  | [] => (⟨0, a, a, 0, []⟩, 0)
  | c :: t =>
    if c = 91 ∨ c = 93 ∨ c = 123 ∨ c = 125 then mark s a 1
    else if c = 60 then (if t.head? = some c then mark s a 2 else hex s a)
    else if c = 62 then (if t.head? = some c then mark s a 2 else refused 3)
    else if c = 47 then name s a
    else if c = 40 then text s a
    else if c = 41 then refused 3
    else word s a
def next (s : List UInt8) (at_ : Int) : Tok × Int := if at_ < 0 ∨ (s.length : Int) < at_ then refused 1 else token s (skip s at_.toNat)
/-- At most so many tokens, or a fault and its place. -/
def upto (s : List UInt8) : Nat → Int → List Tok ⊕ (Int × Int)
  | 0, _ => .inl []
  | m + 1, at_ =>
    if (next s at_).2 ≠ 0 then .inr (skipI s at_, (next s at_).2)
    else if (next s at_).1.k = 0 then .inl []
    else match upto s m (next s at_).1.t with
      | .inl l => .inl ((next s at_).1 :: l)
      | .inr f => .inr f
end Lx
end Go.Proofs.YtiklhhdohckfiaaGreatDoor
/- Plain mathematics of layer 3: where tokens end; lists of tokens. -/
namespace Go.Proofs.YtiklhhdohckfiaaGreatDoor
set_option linter.unusedVariables false
set_option linter.unusedSimpArgs false
set_option linter.defProp false
open Go
namespace Lx
open Oc
theorem hexF_le : ∀ (l : List UInt8) (h : Int) (r : List UInt8 × Nat), hexF h l = .inl r → 1 ≤ r.2 ∧ r.2 ≤ l.length
  | [], _, r, h => by rw [hexF] at h; cases h
  | c :: t, h, r, he => by
    rw [hexF] at he
    have step : ∀ h', (∀ r, hexF h' t = .inl r → 1 ≤ r.2 ∧ r.2 ≤ t.length) := fun h' r hr => hexF_le t h' r hr
    split at he
    · cases he; simp
    · split at he
      · cases hh : hexF h t with
        | inr e => rw [hh] at he; cases he
        | inl q => rw [hh] at he; cases he; have := step _ q hh; simp; omega
      · split at he
        · cases he
        · split at he
          · cases hh : hexF (digit c) t with
            | inr e => rw [hh] at he; cases he
            | inl q => rw [hh] at he; cases he; have := step _ q hh; simp; omega
          · cases hh : hexF (-1) t with
            | inr e => rw [hh] at he; cases he
            | inl q => rw [hh] at he; cases he; have := step _ q hh; simp; omega
theorem textG_le : ∀ (l : List UInt8) (k o : Nat) (r : List UInt8 × Nat), textG k o l = some r → 1 ≤ r.2 ∧ r.2 ≤ l.length
  | [], k, o, r, h => by
    cases k <;> (rw [textG] at h; cases h)
  | c :: t, k + 1, o, r, h => by
    rw [textG] at h
    cases hh : textG k o t with
    | none => rw [hh] at h; cases h
    | some q => rw [hh] at h; cases h; have := textG_le t k o q hh; simp; omega
  | c :: t, 0, o, r, h => by
    rw [textG] at h
    have step : ∀ (k o : Nat) (f : List UInt8 → List UInt8), (textG k o t).map (fun r => (f r.1, r.2 + 1)) = some r → 1 ≤ r.2 ∧ r.2 ≤ (c :: t).length := by
      intro k o f h
      cases hh : textG k o t with
      | none => rw [hh] at h; cases h
      | some q => rw [hh] at h; cases h; have := textG_le t k o q hh; simp; omega
    split at h
    · exact step _ _ _ h
    · split at h
      · split at h
        · cases h
        · exact step _ _ _ h
      · split at h
        · exact step _ _ (fun x => c :: x) h
        · split at h
          · split at h
            · cases h; simp
            · exact step _ _ (fun x => c :: x) h
          · exact step _ _ (fun x => c :: x) h
theorem told_ok {k a t : Int} {x : List UInt8} {m : Int} (h : (told k a t x m).2 = 0) : told k a t x m = (⟨k, a, t, 0, x⟩, 0) := by
  unfold told at h ⊢
  split
  · rename_i hh; rw [if_pos hh] at h; cases h
  · rfl
theorem skipF_stop : ∀ (b : Bool) (l : List UInt8), skipF false (l.drop (skipF b l)) = 0
  | _, [] => by simp [skipF]
  | true, c :: t => by
    simp only [skipF]
    rw [Nat.add_comm, List.drop_succ_cons]
    exact skipF_stop _ t
  | false, c :: t => by
    simp only [skipF]
    split
    · rw [Nat.add_comm, List.drop_succ_cons]; exact skipF_stop _ t
    · split
      · rw [Nat.add_comm, List.drop_succ_cons]; exact skipF_stop _ t
      · rename_i h1 h2
        rw [List.drop_zero, skipF, if_neg h1, if_neg h2]
theorem skip_stop (s : List UInt8) (k : Nat) : skipF false (s.drop (skip s k)) = 0 := by
  have := skipF_stop false (s.drop k)
  rw [List.drop_drop] at this
  exact this
theorem stop_head {c : UInt8} {t : List UInt8} (h : skipF false (c :: t) = 0) : c ≠ 37 ∧ white c = false := by
  rw [skipF] at h
  split at h
  · omega
  · rename_i h1
    split at h
    · omega
    · rename_i h2
      exact ⟨h1, by simpa using h2⟩
theorem regular_of (c : UInt8) (hw : white c = false) (h1 : ¬ (c = 91 ∨ c = 93 ∨ c = 123 ∨ c = 125)) (h2 : c ≠ 60) (h3 : c ≠ 62) (h4 : c ≠ 47) (h5 : c ≠ 40) (h6 : c ≠ 41) (h7 : c ≠ 37) : regular c = true := by
  have g1 : ¬ c = 91 := fun e => h1 (.inl e)
  have g2 : ¬ c = 93 := fun e => h1 (.inr (.inl e))
  have g3 : ¬ c = 123 := fun e => h1 (.inr (.inr (.inl e)))
  have g4 : ¬ c = 125 := fun e => h1 (.inr (.inr (.inr e)))
  simp [regular, hw, delim, delims, g1, g2, g3, g4, h2, h3, h4, h5, h6, h7]
theorem wordT_ok {t : List UInt8} {a r : Int} (h : (wordT t a r).2 = 0) : (wordT t a r).1.k ≠ 0 ∧ (wordT t a r).1.a = a ∧ (wordT t a r).1.t = r := by
  unfold wordT at h ⊢
  split at h
  · rename_i h1
    rw [if_pos h1]
    split at h
    · rename_i h2; exact absurd h h2
    · rename_i h2; rw [if_neg h2]; exact ⟨by simp, rfl, rfl⟩
  · rename_i h1
    rw [if_neg h1]
    split at h
    · rename_i h2; rw [if_pos h2]; exact ⟨by simp, rfl, rfl⟩
    · rename_i h2
      rw [if_neg h2]
      split at h
      · cases h
      · rename_i h3
        rw [if_neg h3, told_ok h]
        exact ⟨by simp, rfl, rfl⟩
/-- Where a token stands. -/
theorem token_bd {s : List UInt8} {a : Nat} (ha : a < s.length) (hsk : skipF false (s.drop a) = 0) (h : (token s a).2 = 0) : (token s a).1.k ≠ 0 ∧ (token s a).1.a = a ∧ (a : Int) < (token s a).1.t ∧ (token s a).1.t ≤ s.length := by
  have hd := drop_cons ha
  have hT : token s a = if s[a] = 91 ∨ s[a] = 93 ∨ s[a] = 123 ∨ s[a] = 125 then mark s a 1
    else if s[a] = 60 then (if (s.drop (a + 1)).head? = some s[a] then mark s a 2 else hex s a)
    else if s[a] = 62 then (if (s.drop (a + 1)).head? = some s[a] then mark s a 2 else refused 3)
    else if s[a] = 47 then name s a
    else if s[a] = 40 then text s a
    else if s[a] = 41 then refused 3
    else word s a := by rw [token, hd]
  rw [hd] at hsk
  obtain ⟨h37, hw⟩ := stop_head hsk
  have two : (s.drop (a + 1)).head? = some s[a] → a + 2 ≤ s.length := by
    intro h
    cases hdd : s.drop (a + 1) with
    | nil => rw [hdd] at h; cases h
    | cons x t =>
      have := congrArg List.length hdd
      simp at this; omega
  rw [hT] at h ⊢
  by_cases g0 : s[a] = 91 ∨ s[a] = 93 ∨ s[a] = 123 ∨ s[a] = 125
  · rw [if_pos g0]; exact ⟨by simp [mark], rfl, by simp only [mark]; omega, by simp only [mark]; omega⟩
  rw [if_neg g0] at h ⊢
  by_cases g1 : s[a] = 60
  · rw [if_pos g1] at h ⊢
    by_cases g : (s.drop (a + 1)).head? = some s[a]
    · have := two g
      rw [if_pos g]; exact ⟨by simp [mark], rfl, by simp only [mark]; omega, by simp only [mark]; omega⟩
    · rw [if_neg g] at h ⊢
      unfold hex at h ⊢
      cases hh : hexF (-1) (s.drop (a + 1)) with
      | inr e =>
        rw [hh] at h
        exfalso
        have : ∀ (l : List UInt8) (x e : Int), hexF x l = .inr e → e ≠ 0 := by
          intro l
          induction l with
          | nil => intro x e he; rw [hexF] at he; cases he; decide
          | cons c t ih =>
            intro x e he
            rw [hexF] at he
            split at he
            · cases he
            · split at he
              · cases hq : hexF x t with
                | inl r => rw [hq] at he; cases he
                | inr e' => rw [hq] at he; cases he; exact ih _ _ hq
              · split at he
                · cases he; decide
                · split at he
                  · cases hq : hexF (digit c) t with
                    | inl r => rw [hq] at he; cases he
                    | inr e' => rw [hq] at he; cases he; exact ih _ _ hq
                  · cases hq : hexF (-1) t with
                    | inl r => rw [hq] at he; cases he
                    | inr e' => rw [hq] at he; cases he; exact ih _ _ hq
        exact this _ _ _ hh h
      | inl r =>
        rw [hh] at h
        simp only at h ⊢
        have := hexF_le _ _ _ hh
        rw [List.length_drop] at this
        rw [told_ok h]
        exact ⟨by simp, rfl, by simp only; omega, by simp only; omega⟩
  rw [if_neg g1] at h ⊢
  by_cases g2 : s[a] = 62
  · rw [if_pos g2] at h ⊢
    by_cases g : (s.drop (a + 1)).head? = some s[a]
    · have := two g
      rw [if_pos g]; exact ⟨by simp [mark], rfl, by simp only [mark]; omega, by simp only [mark]; omega⟩
    · rw [if_neg g] at h; cases h
  rw [if_neg g2] at h ⊢
  by_cases g3 : s[a] = 47
  · rw [if_pos g3] at h ⊢
    have hto := run_le s (show a + 1 ≤ s.length by omega)
    have hto2 : a + 1 ≤ run s (a + 1) := by unfold run; omega
    unfold name at h ⊢
    cases hh : nameF (cut s (a + 1) (run s (a + 1))) with
    | none => rw [hh] at h; cases h
    | some x =>
      rw [hh] at h
      simp only at h ⊢
      rw [told_ok h]
      exact ⟨by simp, rfl, by simp only; omega, by simp only; omega⟩
  rw [if_neg g3] at h ⊢
  by_cases g4 : s[a] = 40
  · rw [if_pos g4] at h ⊢
    unfold text at h ⊢
    cases hh : textG 0 1 (s.drop (a + 1)) with
    | none => rw [hh] at h; cases h
    | some r =>
      rw [hh] at h
      simp only at h ⊢
      have := textG_le _ _ _ _ hh
      rw [List.length_drop] at this
      rw [told_ok h]
      exact ⟨by simp, rfl, by simp only; omega, by simp only; omega⟩
  rw [if_neg g4] at h ⊢
  by_cases g5 : s[a] = 41
  · rw [if_pos g5] at h; cases h
  rw [if_neg g5] at h ⊢
  have hreg := regular_of s[a] hw g0 g1 g2 g3 g4 g5 h37
  have hto := run_le s (show a ≤ s.length by omega)
  have hto2 : a < run s a := by unfold run; rw [hd, runF, if_pos hreg]; omega
  obtain ⟨k1, k2, k3⟩ := wordT_ok h
  exact ⟨k1, k2, by rw [show (word s a).1.t = _ from k3]; omega, by rw [show (word s a).1.t = _ from k3]; omega⟩
theorem next_bd {s : List UInt8} {i : Int} (h : (next s i).2 = 0) (hk : (next s i).1.k ≠ 0) : 0 ≤ i ∧ i ≤ s.length ∧ (next s i).1.a = skip s i.toNat ∧ (next s i).1.a < (next s i).1.t ∧ (next s i).1.t ≤ s.length := by
  unfold next at h hk ⊢
  split
  · rename_i hh; rw [if_pos hh] at h; cases h
  · rename_i hh
    rw [if_neg hh] at h hk
    have hle := skip_le s (k := i.toNat) (by omega)
    rcases Nat.lt_or_ge (skip s i.toNat) s.length with h1 | h1
    · have := token_bd h1 (skip_stop s i.toNat) h
      exact ⟨by omega, by omega, this.2.1, by rw [this.2.1]; exact this.2.2.1, this.2.2.2⟩
    · exfalso
      rw [token, List.drop_eq_nil_of_le h1] at hk
      exact hk rfl
theorem skip_ge (s : List UInt8) (k : Nat) : k ≤ skip s k := by unfold skip; omega
/-- From a on the tokens l are read, up to b. -/
def Steps (s : List UInt8) (a : Int) (l : List Tok) (b : Int) : Prop := ∀ m, upto s (l.length + m) a = match upto s m b with | .inl r => .inl (l ++ r) | .inr f => .inr f
theorem Steps.nil (s : List UInt8) (a : Int) : Steps s a [] a := by
  intro m
  rw [List.length_nil, Nat.zero_add]
  cases upto s m a <;> rfl
theorem Steps.snoc {s : List UInt8} {a b : Int} {l : List Tok} (h : Steps s a l b) (h1 : (next s b).2 = 0) (h2 : (next s b).1.k ≠ 0) : Steps s a (l ++ [(next s b).1]) (next s b).1.t := by
  intro m
  have := h (m + 1)
  rw [List.length_append, List.length_singleton, Nat.add_assoc, Nat.add_comm 1 m, this]
  rw [upto, if_neg (by rw [h1]; simp), if_neg h2]
  cases upto s m (next s b).1.t <;> simp
theorem Steps.fin {s : List UInt8} {a b : Int} {l : List Tok} (h : Steps s a l b) (m : Nat) : upto s (l.length + m) a = match upto s m b with | .inl r => .inl (l ++ r) | .inr f => .inr f := h m
end Lx
end Go.Proofs.YtiklhhdohckfiaaGreatDoor
/- Plain mathematics of layer 3: a token cut alone is the same token. -/
namespace Go.Proofs.YtiklhhdohckfiaaGreatDoor
set_option linter.unusedVariables false
set_option linter.unusedSimpArgs false
set_option linter.defProp false
open Go
namespace Lx
open Oc
theorem take_cons {c : UInt8} {t : List UInt8} {n : Nat} (h : 1 ≤ n) : (c :: t).take n = c :: t.take (n - 1) := by
  obtain ⟨m, rfl⟩ : ∃ m, n = m + 1 := ⟨n - 1, by omega⟩; rfl
theorem textG_ge : ∀ (l : List UInt8) (k o : Nat) (r : List UInt8 × Nat), textG k o l = some r → k + 1 ≤ r.2
  | [], k, o, r, h => by cases k <;> (rw [textG] at h; cases h)
  | c :: t, 0, o, r, h => by have := textG_le _ _ _ _ h; omega
  | c :: t, k + 1, o, r, h => by
    rw [textG] at h
    cases hh : textG k o t with
    | none => rw [hh] at h; cases h
    | some q => rw [hh] at h; cases h; have := textG_ge t k o q hh; simp; omega
theorem map_some {α β : Type} {f : α → β} {x : Option α} {r : β} (h : x.map f = some r) : ∃ q, x = some q ∧ r = f q := by
  cases x with
  | none => cases h
  | some q => cases h; exact ⟨q, rfl, rfl⟩
theorem runF_take : ∀ l : List UInt8, (l.take (runF l)).all regular = true ∧ runF (l.take (runF l)) = runF l
  | [] => by simp [runF]
  | c :: t => by
    obtain ⟨i1, i2⟩ := runF_take t
    simp only [runF]
    by_cases h : regular c = true
    · rw [if_pos h, take_cons (by omega), Nat.add_sub_cancel_left]
      simp only [runF, i2, List.all_cons, h, i1, Bool.and_self, if_true, and_self]
    · rw [if_neg h]; simp [runF]
theorem wordT_move {t : List UInt8} {a r : Int} (h : (wordT t a r).2 = 0) (b q : Int) : wordT t b q = ({ (wordT t a r).1 with a := b, t := q }, 0) := by
  unfold wordT at h ⊢
  by_cases h1 : intForm t = true
  · simp only [if_pos h1] at h ⊢
    by_cases h2 : (whole t).2 ≠ 0
    · rw [if_pos h2] at h; exact absurd h h2
    · simp only [if_neg h2]
  · simp only [if_neg h1] at h ⊢
    by_cases h2 : t.contains 46 ∧ (Fx.read t).2 = 0
    · simp only [if_pos h2]
    · simp only [if_neg h2] at h ⊢
      by_cases h3 : t.contains 46 ∧ (Fx.read t).2 = 2
      · rw [if_pos h3] at h; cases h
      · simp only [if_neg h3] at h ⊢
        unfold told at h ⊢
        by_cases h4 : (127 : Int) < t.length
        · rw [if_pos h4] at h; cases h
        · simp only [if_neg h4]
theorem cut_length {s : List UInt8} {i j : Nat} (h : j ≤ s.length) : (cut s i j).length = j - i := by
  unfold cut; rw [List.length_take, List.length_drop]; omega
theorem cut_cons {s : List UInt8} {a b : Nat} (ha : a < s.length) (h : a < b) : cut s a b = s[a] :: (s.drop (a + 1)).take (b - (a + 1)) := by
  unfold cut
  rw [drop_cons ha, take_cons (by omega), show b - a - 1 = b - (a + 1) by omega]
theorem cut_full (u : List UInt8) : cut u 0 u.length = u := by simp [cut]
/- LISTS OF TOKENS -/
/-- From at_ on the tokens are l, and then nothing is left. -/
def Chain (s : List UInt8) : Int → List Tok → Prop
  | at_, [] => 0 ≤ at_ ∧ at_ ≤ s.length ∧ skip s at_.toNat = s.length
  | at_, x :: l => 0 ≤ at_ ∧ at_ ≤ s.length ∧ next s at_ = (x, 0) ∧ x.k ≠ 0 ∧ Chain s x.t l
end Lx
end Go.Proofs.YtiklhhdohckfiaaGreatDoor
/- Plain mathematics of layer 3: whole numbers from their digits; strings from hexadecimal and octal digits. -/
namespace Go.Proofs.YtiklhhdohckfiaaGreatDoor
set_option linter.unusedVariables false
set_option linter.unusedSimpArgs false
set_option linter.defProp false
open Go
namespace Lx
open Oc
theorem all8 {p : UInt8 → Prop} (h : ∀ n : Fin 256, p (UInt8.ofNat n.val)) (c : UInt8) : p c := by
  have := h ⟨c.toNat, c.toNat_lt⟩
  simpa using this
theorem regular_ne (c : UInt8) : regular c = true → white c = false ∧ c ≠ 37 ∧ ¬ (c = 91 ∨ c = 93 ∨ c = 123 ∨ c = 125) ∧ c ≠ 60 ∧ c ≠ 62 ∧ c ≠ 47 ∧ c ≠ 40 ∧ c ≠ 41 := by
  refine all8 (p := fun c => regular c = true → white c = false ∧ c ≠ 37 ∧ ¬ (c = 91 ∨ c = 93 ∨ c = 123 ∨ c = 125) ∧ c ≠ 60 ∧ c ≠ 62 ∧ c ≠ 47 ∧ c ≠ 40 ∧ c ≠ 41) ?_ c
  decide +kernel
theorem dig_reg (c : UInt8) : dig c = true → regular c = true ∧ sgn c = false ∧ c ≠ 45 := by
  refine all8 (p := fun c => dig c = true → regular c = true ∧ sgn c = false ∧ c ≠ 45) ?_ c
  decide +kernel
theorem val_cons (n : Nat) (c : UInt8) (l : List UInt8) : val n (c :: l) = val (10 * n + (c.toNat - 48)) l := by simp only [val, List.foldl_cons]
theorem token_word {s : List UInt8} {a : Nat} {c : UInt8} {t : List UInt8} (hd : s.drop a = c :: t) (h : regular c = true) : token s a = word s a := by
  obtain ⟨_, _, h1, h2, h3, h4, h5, h6⟩ := regular_ne c h
  rw [token, hd]
  simp only [if_neg h1, if_neg h2, if_neg h3, if_neg h4, if_neg h5, if_neg h6]
theorem all_reg {ds : List UInt8} (h : ds.all dig = true) : ds.all regular = true := by
  rw [List.all_eq_true] at h ⊢
  exact fun c hc => (dig_reg c (h c hc)).1
theorem unsign_num {sg ds : List UInt8} (hs : sg = [] ∨ sg = [45]) (h : ds.all dig = true) : unsign (sg ++ ds) = ds := by
  rcases hs with rfl | rfl
  · cases ds with
    | nil => rfl
    | cons c t =>
      simp only [List.all_cons, Bool.and_eq_true] at h
      rw [List.nil_append, unsign, (dig_reg c h.1).2.1]; rfl
  · rfl
end Lx
end Go.Proofs.YtiklhhdohckfiaaGreatDoor
/- Plain mathematics of layer 4: encodings are one-to-one; no program in sight. -/
namespace Go.Proofs.YtiklhhdohckfiaaGreatDoor
set_option linter.unusedVariables false
set_option linter.unusedSimpArgs false
set_option linter.defProp false
open Go
namespace Pl
open Oc
/- NUMBERS -/
theorem dec_val : ∀ u : Nat, Fx.val 0 (Lib.decDigits u) = (u : Int) ∧ (Lib.decDigits u).all Fx.isDig = true := by
  intro u
  induction u using Nat.strongRecOn with
  | _ u ih =>
    have dig : ∀ k, k < 10 → Fx.isDig (UInt8.ofNat (48 + k)) = true ∧ ((UInt8.ofNat (48 + k)).toNat : Int) - 48 = (k : Int) := by
      intro k hk
      have e : (UInt8.ofNat (48 + k)).toNat = 48 + k := by rw [UInt8.toNat_ofNat']; omega
      refine ⟨?_, by omega⟩
      unfold Fx.isDig
      rw [e]
      simp only [Bool.and_eq_true, decide_eq_true_eq]
      omega
    rw [Lib.decDigits]
    split
    · rename_i h
      obtain ⟨h1, h2⟩ := dig u h
      refine ⟨?_, by rw [List.all_cons, h1]; rfl⟩
      simp only [Fx.val, List.foldl_cons, List.foldl_nil, h2]
      omega
    · rename_i h
      obtain ⟨i1, i2⟩ := ih (u / 10) (by omega)
      obtain ⟨h1, h2⟩ := dig (u % 10) (by omega)
      refine ⟨?_, by rw [List.all_append, i2, List.all_cons, h1]; rfl⟩
      rw [Fx.val_append, i1]
      simp only [Fx.val, List.foldl_cons, List.foldl_nil, h2]
      omega
theorem itoa_shape (n : Int) : (∃ u : Nat, n = u ∧ Lib.itoa n = Lib.decDigits u) ∨ (∃ u : Nat, n = -(u : Int) ∧ 0 < u ∧ Lib.itoa n = 45 :: Lib.decDigits u) := by
  unfold Lib.itoa
  by_cases h : n < 0
  · rw [if_pos h]; exact .inr ⟨n.natAbs, by omega, by omega, rfl⟩
  · rw [if_neg h]; exact .inl ⟨n.toNat, by omega, rfl⟩
theorem text_has46 {n : Int} (h : Fx.okB n = true) : (46 : UInt8) ∈ Fx.text n := by
  rw [Fx.text, if_pos h]; simp
end Pl
end Go.Proofs.YtiklhhdohckfiaaGreatDoor
/- Plain mathematics of layers 3 and 4: every encoding is one token; strings from hexadecimal and octal digits. -/
namespace Go.Proofs.YtiklhhdohckfiaaGreatDoor
set_option linter.unusedVariables false
set_option linter.unusedSimpArgs false
set_option linter.defProp false
open Go
namespace Lx
open Oc
theorem word_next {t : List UInt8} (h : t ≠ []) (hr : t.all regular = true) : next t 0 = wordT t 0 t.length := by
  cases t with
  | nil => exact absurd rfl h
  | cons c r =>
    have hc : regular c = true := by simp only [List.all_cons, Bool.and_eq_true] at hr; exact hr.1
    obtain ⟨hw, h37, _⟩ := regular_ne c hc
    have hsk : skip (c :: r) 0 = 0 := by
      unfold skip
      rw [List.drop_zero, skipF, if_neg h37, if_neg (by rw [hw]; decide)]
    have all_run : ∀ l : List UInt8, l.all regular = true → runF l = l.length := by
      intro l
      induction l with
      | nil => intro _; rfl
      | cons d l ih =>
        intro hl
        simp only [List.all_cons, Bool.and_eq_true] at hl
        rw [runF, if_pos hl.1, ih hl.2, List.length_cons]; omega
    have hrun : run (c :: r) 0 = (c :: r).length := by
      unfold run
      rw [List.drop_zero, all_run _ hr, Nat.zero_add]
    unfold next
    rw [if_neg (by omega), Int.toNat_zero, hsk, token_word (List.drop_zero) hc, word, hrun, cut_full]; rfl
theorem val_fx : ∀ (l : List UInt8) (n : Nat), l.all dig = true → ((val n l : Nat) : Int) = Fx.val n l
  | [], n, _ => rfl
  | c :: l, n, h => by
    simp only [List.all_cons, Bool.and_eq_true] at h
    have hc : 48 ≤ c.toNat := by have := h.1; simp only [dig, Bool.and_eq_true, decide_eq_true_eq] at this; omega
    rw [val_cons, Fx.val_cons, val_fx l _ h.2]
    congr 1
    omega
theorem itoa_next {n : Int} (h1 : -2147483647 ≤ n) (h2 : n ≤ 2147483647) : next (Lib.itoa n) 0 = (⟨1, 0, (Lib.itoa n).length, n, []⟩, 0) := by
  have dec : ∀ u : Nat, (Lib.decDigits u).all dig = true ∧ val 0 (Lib.decDigits u) = u ∧ Lib.decDigits u ≠ [] := by
    intro u
    obtain ⟨d1, d2⟩ := Pl.dec_val u
    refine ⟨d2, by have := val_fx (Lib.decDigits u) 0 d2; rw [show ((0 : Nat) : Int) = 0 from rfl, d1] at this; omega, fun e => ?_⟩
    have := Lib.decDigits_length u
    rw [e] at this
    have h1 : 1 ≤ Lib.nDigits u := by unfold Lib.nDigits; split <;> omega
    simp at this; omega
  have go : ∀ (sg : List UInt8) (u : Nat), (sg = [] ∨ sg = [45]) → u ≤ 2147483647 → n = (if sg = [] then (u : Int) else -(u : Int)) → Lib.itoa n = sg ++ Lib.decDigits u → next (Lib.itoa n) 0 = (⟨1, 0, (Lib.itoa n).length, n, []⟩, 0) := by
    intro sg u hs hu hn he
    obtain ⟨d1, d2, d3⟩ := dec u
    have ht : (sg ++ Lib.decDigits u).all regular = true := by
      rw [List.all_append, all_reg d1, Bool.and_true]
      rcases hs with rfl | rfl <;> rfl
    rw [he, word_next (by simp [d3]) ht, wordT]
    have hus := unsign_num hs d1
    have hI : intForm (sg ++ Lib.decDigits u) = true := by
      unfold intForm
      rw [hus, d1]
      cases hd : Lib.decDigits u with
      | nil => exact absurd hd d3
      | cons => rfl
    have hhead : (sg ++ Lib.decDigits u).head? = some 45 ↔ sg = [45] := by
      rcases hs with rfl | rfl
      · cases hd : Lib.decDigits u with
        | nil => exact absurd hd d3
        | cons c t =>
          rw [hd] at d1
          simp only [List.all_cons, Bool.and_eq_true] at d1
          simp [(dig_reg c d1.1).2.2]
      · simp
    have hW : whole (sg ++ Lib.decDigits u) = (n, 0) := by
      unfold whole
      rw [hus, d2, if_neg (by omega)]
      rcases hs with rfl | rfl
      · rw [if_neg (by rw [hhead]; simp), hn, if_pos rfl]
      · rw [if_pos (by rw [hhead]), hn, if_neg (by simp)]
    rw [if_pos hI, hW, if_neg (by simp)]
  rcases Pl.itoa_shape n with ⟨u, hu, e⟩ | ⟨u, hu, hp, e⟩
  · exact go [] u (.inl rfl) (by omega) (by simpa using hu) (by simpa using e)
  · exact go [45] u (.inr rfl) (by omega) (by simpa using hu) (by simpa using e)
theorem dig_all_reg {l : List UInt8} (h : l.all Fx.isDig = true) : l.all regular = true := all_reg h
theorem text_next {n : Int} (h : Fx.okB n = true) : next (Fx.text n) 0 = (⟨2, 0, (Fx.text n).length, n, []⟩, 0) := by
  have h46 := Pl.text_has46 h
  have hr : (Fx.text n).all regular = true := by
    rw [Fx.text, if_pos h, List.all_append, List.all_append, List.all_append, dig_all_reg (Fx.row_all _ _)]
    obtain ⟨j, _, hf⟩ := Fx.fpart_rep n.natAbs
    rw [hf, List.all_append, dig_all_reg (Fx.tr_all (Fx.row_all _ _)), dig_all_reg (Fx.rep_all _)]
    split <;> rfl
  have hread : Fx.read (Fx.text n) = (n, 0) := by
    have := (Fx.read_text n h 0 (by omega)).1
    simpa using this
  have hne : Fx.text n ≠ [] := by intro e; rw [e] at h46; cases h46
  rw [word_next hne hr, wordT]
  have hI : intForm (Fx.text n) = false := by
    unfold intForm
    rw [Bool.and_eq_false_iff]
    right
    have hm : (46 : UInt8) ∈ unsign (Fx.text n) := by
      cases ht : Fx.text n with
      | nil => exact absurd ht hne
      | cons c t =>
        rw [ht] at h46
        rw [unsign]
        split
        · rename_i hs
          rcases List.mem_cons.1 h46 with e | e
          · rw [← e] at hs; cases hs
          · exact e
        · exact h46
    rw [List.all_eq_false]
    exact ⟨46, hm, by decide⟩
  rw [hI, hread]
  simp only [Bool.false_eq_true, if_false]
  rw [if_pos ⟨by simpa using h46, trivial⟩]
/- STRINGS -/
theorem oct_facts (c : UInt8) : oct (UInt8.ofNat (48 + c.toNat / 64)) = true ∧ oct (UInt8.ofNat (48 + c.toNat / 8 % 8)) = true ∧ oct (UInt8.ofNat (48 + c.toNat % 8)) = true ∧ escL (UInt8.ofNat (48 + c.toNat / 64)) = none ∧ eol (UInt8.ofNat (48 + c.toNat / 64)) = false
    ∧ UInt8.ofNat (8 * (8 * (8 * 0 + ((UInt8.ofNat (48 + c.toNat / 64)).toNat - 48)) + ((UInt8.ofNat (48 + c.toNat / 8 % 8)).toNat - 48)) + ((UInt8.ofNat (48 + c.toNat % 8)).toNat - 48)) = c := by
  refine all8 (p := fun c => oct (UInt8.ofNat (48 + c.toNat / 64)) = true ∧ oct (UInt8.ofNat (48 + c.toNat / 8 % 8)) = true ∧ oct (UInt8.ofNat (48 + c.toNat % 8)) = true ∧ escL (UInt8.ofNat (48 + c.toNat / 64)) = none ∧ eol (UInt8.ofNat (48 + c.toNat / 64)) = false
    ∧ UInt8.ofNat (8 * (8 * (8 * 0 + ((UInt8.ofNat (48 + c.toNat / 64)).toNat - 48)) + ((UInt8.ofNat (48 + c.toNat / 8 % 8)).toNat - 48)) + ((UInt8.ofNat (48 + c.toNat % 8)).toNat - 48)) = c) ?_ c
  decide +kernel
theorem escF_oct (c : UInt8) (t : List UInt8) : escF (UInt8.ofNat (48 + c.toNat / 64) :: UInt8.ofNat (48 + c.toNat / 8 % 8) :: UInt8.ofNat (48 + c.toNat % 8) :: t) = ([c], 3) := by
  obtain ⟨h1, h2, h3, h4, h5, h6⟩ := oct_facts c
  generalize UInt8.ofNat (48 + c.toNat / 64) = x at *
  generalize UInt8.ofNat (48 + c.toNat / 8 % 8) = y at *
  generalize UInt8.ofNat (48 + c.toNat % 8) = z at *
  have ho : octF 3 0 (x :: y :: z :: t) = (8 * (8 * (8 * 0 + (x.toNat - 48)) + (y.toNat - 48)) + (z.toNat - 48), 3) := by
    simp only [octF, h1, h2, h3, if_true]
  simp only [escF, h4, h5, ho, Bool.false_eq_true, if_false]
  rw [if_pos (by omega), h6]
/-- A backslash and three octal digits. -/
theorem textG_oct (c : UInt8) (o : Nat) (t : List UInt8) : textG 0 o (Pl.oct c ++ t) = (textG 0 o t).map fun r => (c :: r.1, r.2 + 4) := by
  unfold Pl.oct
  rw [List.cons_append, textG, if_neg (by decide), if_pos rfl, if_neg (by simp)]
  simp only [List.cons_append, List.nil_append]
  rw [escF_oct, textG_skip 3 o _ (by simp), Option.map_map]
  simp only [List.drop_succ_cons, List.drop_zero]
  congr 1
theorem textG_esc (c : UInt8) (t : List UInt8) : textG 0 1 (Pl.esc c ++ t) = (textG 0 1 t).map fun r => (c :: r.1, r.2 + (Pl.esc c).length) := by
  unfold Pl.esc
  by_cases h1 : c = 40 ∨ c = 41 ∨ c = 92
  · rw [if_pos h1]
    have hl : escL c = none := by rcases h1 with rfl | rfl | rfl <;> rfl
    have he : eol c = false := by rcases h1 with rfl | rfl | rfl <;> rfl
    have ho : oct c = false := by rcases h1 with rfl | rfl | rfl <;> rfl
    have hE : escF (c :: t) = ([c], 1) := by
      have h0 : octF 3 0 (c :: t) = (0, 0) := by simp only [octF, ho, Bool.false_eq_true, if_false]
      simp only [escF, hl, he, h0, Bool.false_eq_true, if_false]
      rw [if_neg (by omega)]
    rw [List.cons_append, List.cons_append, List.nil_append, textG, if_neg (by decide), if_pos rfl, if_neg (by simp), hE, textG_skip 1 1 _ (by simp), Option.map_map]
    simp only [List.drop_succ_cons, List.drop_zero]
    congr 1
  · rw [if_neg h1]
    by_cases h2 : c.toNat < 32 ∨ 126 < c.toNat
    · rw [if_pos h2, textG_oct]; rfl
    · rw [if_neg h2, List.cons_append, List.nil_append, textG]
      have he : eol c = false := by
        unfold eol
        rw [Bool.or_eq_false_iff]
        refine ⟨decide_eq_false fun e => ?_, decide_eq_false fun e => ?_⟩ <;>
        · rw [e] at h2
          exact h2 (.inl (by decide))
      rw [if_neg (by rw [he]; decide), if_neg (fun e => h1 (.inr (.inr e))), if_neg (fun e => h1 (.inl e)), if_neg (fun e => h1 (.inr (.inl e)))]
      rfl
theorem textG_escs : ∀ (l t : List UInt8), textG 0 1 (l.flatMap Pl.esc ++ t) = (textG 0 1 t).map fun r => (l ++ r.1, r.2 + (l.flatMap Pl.esc).length)
  | [], t => by simp
  | c :: l, t => by
    rw [List.flatMap_cons, List.append_assoc, textG_esc, textG_escs l t, Option.map_map]
    congr 1
    funext r
    simp only [Function.comp, List.cons_append, List.length_append]
    refine Prod.ext rfl ?_
    simp only; omega
theorem textG_close (t : List UInt8) : textG 0 1 (41 :: t) = some ([], 1) := by
  rw [textG, if_neg (by decide), if_neg (by decide), if_neg (by decide), if_pos rfl, if_pos (by omega)]
theorem next_open (c : UInt8) (t : List UInt8) (h : c ≠ 37 ∧ white c = false) : next (c :: t) 0 = token (c :: t) 0 := by
  have hsk : skip (c :: t) 0 = 0 := by
    unfold skip
    rw [List.drop_zero, skipF, if_neg h.1, if_neg (by rw [h.2]; decide)]
  unfold next
  rw [if_neg (by omega), Int.toNat_zero, hsk]
theorem token_text (t : List UInt8) : token (40 :: t) 0 = text (40 :: t) 0 := by
  rw [token, List.drop_zero]
  simp only
  rw [if_neg (by decide), if_neg (by decide), if_neg (by decide), if_neg (by decide), if_pos trivial]
theorem text_of {t x : List UInt8} {n : Nat} (h : textG 0 1 t = some (x, n)) (hx : x.length ≤ 32767) : next (40 :: t) 0 = (⟨3, 0, (1 + n : Nat), 0, x⟩, 0) := by
  rw [next_open 40 t (by decide), token_text, text]
  have : (40 :: t).drop (0 + 1) = t := rfl
  rw [this, h]
  simp only [told]
  rw [if_neg (by omega), Nat.zero_add]; rfl
theorem str_next {l : List UInt8} (h : l.length ≤ 32767) : next (Pl.str l) 0 = (⟨3, 0, (Pl.str l).length, 0, l⟩, 0) := by
  have hs : Pl.str l = 40 :: (l.flatMap Pl.esc ++ 41 :: []) := by simp [Pl.str]
  have := text_of (t := l.flatMap Pl.esc ++ 41 :: []) (x := l) (n := 1 + (l.flatMap Pl.esc).length) (by rw [textG_escs, textG_close]; simp) h
  rw [hs, this]
  simp only [List.length_cons, List.length_append, List.length_nil]
  rw [show 1 + (1 + (l.flatMap Pl.esc).length) = (l.flatMap Pl.esc).length + (0 + 1) + 1 by omega]
/- HEXADECIMAL -/
theorem hex_facts (c : UInt8) : digit (hexD (c.toNat / 16)) = (c.toNat / 16 : Nat) ∧ digit (hexD (c.toNat % 16)) = (c.toNat % 16 : Nat) ∧ byte (c.toNat / 16 : Nat) (c.toNat % 16 : Nat) = c ∧ hexD (c.toNat / 16) ≠ 62 ∧ hexD (c.toNat % 16) ≠ 62 ∧ white (hexD (c.toNat / 16)) = false ∧ white (hexD (c.toNat % 16)) = false
    ∧ regular (hexD (c.toNat / 16)) = true ∧ regular (hexD (c.toNat % 16)) = true ∧ hexD (c.toNat / 16) ≠ 60 := by
  refine all8 (p := fun c => digit (hexD (c.toNat / 16)) = (c.toNat / 16 : Nat) ∧ digit (hexD (c.toNat % 16)) = (c.toNat % 16 : Nat) ∧ byte (c.toNat / 16 : Nat) (c.toNat % 16 : Nat) = c ∧ hexD (c.toNat / 16) ≠ 62 ∧ hexD (c.toNat % 16) ≠ 62 ∧ white (hexD (c.toNat / 16)) = false ∧ white (hexD (c.toNat % 16)) = false
    ∧ regular (hexD (c.toNat / 16)) = true ∧ regular (hexD (c.toNat % 16)) = true ∧ hexD (c.toNat / 16) ≠ 60) ?_ c
  decide +kernel
/- NAMES -/
theorem nmOk_reg (c : UInt8) : Pl.nmOk c = true → regular c = true ∧ c ≠ 35 := by
  refine all8 (p := fun c => Pl.nmOk c = true → regular c = true ∧ c ≠ 35) ?_ c
  decide +kernel
theorem nmc_reg (c : UInt8) : (Pl.nmc c).all regular = true := by
  unfold Pl.nmc
  split
  · rename_i h; rw [List.all_cons, (nmOk_reg c h).1]; rfl
  · obtain ⟨-, -, -, -, -, -, -, f8, f9, -⟩ := hex_facts c
    simp only [Oc.hex, hex1, List.flatMap_cons, List.flatMap_nil, List.append_nil, List.cons_append, List.nil_append, List.all_cons, f8, f9, List.all_nil, Bool.and_true]
    decide
theorem nmcs_reg (l : List UInt8) : (l.flatMap Pl.nmc).all regular = true := by
  rw [List.all_flatMap, List.all_eq_true]
  exact fun c _ => nmc_reg c
theorem nameF_nmc : ∀ l : List UInt8, (0 : UInt8) ∉ l → nameF (l.flatMap Pl.nmc) = some l
  | [], _ => rfl
  | c :: l, h => by
    simp only [List.mem_cons, not_or] at h
    have ih := nameF_nmc l h.2
    rw [List.flatMap_cons]
    generalize l.flatMap Pl.nmc = z at *
    unfold Pl.nmc
    by_cases hc : Pl.nmOk c = true
    · rw [if_pos hc, List.cons_append, List.nil_append, nameF_ne (nmOk_reg c hc).2, ih]; rfl
    · rw [if_neg hc]
      obtain ⟨f1, f2, f3, -⟩ := hex_facts c
      have h0 : c.toNat ≠ 0 := fun e => h.1 (UInt8.toNat_inj.1 (by rw [e]; rfl))
      simp only [Oc.hex, hex1, List.flatMap_cons, List.flatMap_nil, List.append_nil, List.cons_append, List.nil_append]
      rw [nameF, if_pos rfl]
      simp only [f1, f2]
      rw [if_neg (by omega), ih, f3]; rfl
theorem name_next {l : List UInt8} (hl : l.length ≤ 127) (h0 : (0 : UInt8) ∉ l) : next (Pl.name l) 0 = (⟨4, 0, (Pl.name l).length, 0, l⟩, 0) := by
  have hs : Pl.name l = 47 :: l.flatMap Pl.nmc := by simp [Pl.name]
  rw [hs, next_open 47 _ (by decide), token, List.drop_zero]
  simp only
  rw [if_neg (by decide), if_neg (by decide), if_neg (by decide), if_pos trivial, Lx.name]
  have hd : (47 :: l.flatMap Pl.nmc).drop (0 + 1) = l.flatMap Pl.nmc := rfl
  have all_run : ∀ l : List UInt8, l.all regular = true → runF l = l.length := by
    intro l
    induction l with
    | nil => intro _; rfl
    | cons d l ih =>
      intro hl
      simp only [List.all_cons, Bool.and_eq_true] at hl
      rw [runF, if_pos hl.1, ih hl.2, List.length_cons]; omega
  have hrun : run (47 :: l.flatMap Pl.nmc) (0 + 1) = (47 :: l.flatMap Pl.nmc).length := by
    unfold run
    rw [hd, all_run _ (nmcs_reg l), List.length_cons]; omega
  have hcut : cut (47 :: l.flatMap Pl.nmc) (0 + 1) (47 :: l.flatMap Pl.nmc).length = l.flatMap Pl.nmc := by
    unfold cut
    rw [hd, List.take_of_length_le]
    rw [List.length_cons]; omega
  rw [hrun, hcut, nameF_nmc l h0]
  simp only [told]
  rw [if_neg (by omega)]; rfl
end Lx
end Go.Proofs.YtiklhhdohckfiaaGreatDoor
/- Plain mathematics of layers 3 and 4: joined tokens scan into the same tokens. -/
namespace Go.Proofs.YtiklhhdohckfiaaGreatDoor
set_option linter.unusedVariables false
set_option linter.unusedSimpArgs false
set_option linter.defProp false
open Go
namespace Lx
open Oc
theorem head_app {t m : List UInt8} (h : t ≠ []) : (t ++ m).head? = t.head? := by
  cases t with
  | nil => exact absurd rfl h
  | cons => rfl
theorem lineF_ext {c : UInt8} {t : List UInt8} (m : List UInt8) (he : eol c = true) (h : t ≠ []) : lineF (c :: (t ++ m)) = lineF (c :: t) := by
  simp only [lineF, head_app h]
  by_cases h1 : c = 10
  · simp [h1]
  · by_cases h2 : c = 13
    · simp [h2]
    · simp [eol, h1, h2] at he
theorem octF_ext : ∀ (k n : Nat) (l m : List UInt8), (octF k n l).2 + 1 ≤ l.length → octF k n (l ++ m) = octF k n l
  | 0, n, l, m, h => by simp [octF]
  | k + 1, n, [], m, h => by simp at h
  | k + 1, n, c :: t, m, h => by
    rw [List.cons_append]
    simp only [octF] at h ⊢
    by_cases ho : oct c = true
    · rw [if_pos ho] at h ⊢
      rw [if_pos ho]
      simp only [List.length_cons] at h
      rw [octF_ext k _ t m (by omega)]
    · rw [if_neg ho, if_neg ho]
theorem escF_ext {l : List UInt8} (m : List UInt8) (h : (escF l).2 + 1 ≤ l.length) : escF (l ++ m) = escF l := by
  cases l with
  | nil => simp at h
  | cons c t =>
    rw [List.cons_append]
    simp only [escF, List.length_cons] at h ⊢
    cases hl : escL c with
    | some b => rfl
    | none =>
      simp only [hl] at h ⊢
      by_cases he : eol c = true
      · rw [if_pos he] at h ⊢
        rw [if_pos he]
        have hp := lineF_pos c t
        simp only at h
        rw [lineF_ext m he (by intro e; subst e; simp at h; omega)]
      · rw [if_neg he] at h ⊢
        rw [if_neg he]
        have h3 : (octF 3 0 (c :: t)).2 + 1 ≤ (c :: t).length := by
          by_cases h0 : 0 < (octF 3 0 (c :: t)).2
          · rw [if_pos h0] at h; rw [List.length_cons]; exact h
          · rw [List.length_cons]; omega
        have ht := octF_ext 3 0 (c :: t) m h3
        rw [List.cons_append] at ht
        rw [ht]
theorem textG_ext : ∀ (l : List UInt8) (k o : Nat) (r : List UInt8 × Nat) (m : List UInt8), textG k o l = some r → textG k o (l ++ m) = some r
  | [], k, o, r, m, h => by cases k <;> (rw [textG] at h; cases h)
  | c :: t, k + 1, o, r, m, h => by
    rw [textG] at h
    obtain ⟨q, hq, rfl⟩ := map_some h
    rw [List.cons_append, textG, textG_ext t k o q m hq]; rfl
  | c :: t, 0, o, r, m, h => by
    rw [List.cons_append]
    rw [textG] at h ⊢
    have ne : ∀ k o q, textG k o t = some q → t ≠ [] := by
      intro k o q hq e
      subst e
      cases k <;> (rw [textG] at hq; cases hq)
    by_cases g1 : eol c = true
    · rw [if_pos g1] at h ⊢
      obtain ⟨q, hq, rfl⟩ := map_some h
      rw [lineF_ext m g1 (ne _ _ _ hq), textG_ext t _ o q m hq]; rfl
    · rw [if_neg g1] at h ⊢
      by_cases g2 : c = 92
      · rw [if_pos g2] at h ⊢
        by_cases g3 : t = []
        · rw [if_pos g3] at h; cases h
        · rw [if_neg g3] at h
          obtain ⟨q, hq, rfl⟩ := map_some h
          have h2 := textG_ge _ _ _ _ hq
          have h3 := textG_le _ _ _ _ hq
          rw [escF_ext m (by omega), textG_ext t _ o q m hq, if_neg (by simp [g3])]; rfl
      · rw [if_neg g2] at h ⊢
        by_cases g4 : c = 40
        · rw [if_pos g4] at h ⊢
          obtain ⟨q, hq, rfl⟩ := map_some h
          rw [textG_ext t _ _ q m hq]; rfl
        · rw [if_neg g4] at h ⊢
          by_cases g5 : c = 41
          · rw [if_pos g5] at h ⊢
            by_cases g6 : o ≤ 1
            · rw [if_pos g6] at h ⊢; exact h
            · rw [if_neg g6] at h ⊢
              obtain ⟨q, hq, rfl⟩ := map_some h
              rw [textG_ext t _ _ q m hq]; rfl
          · rw [if_neg g5] at h ⊢
            obtain ⟨q, hq, rfl⟩ := map_some h
            rw [textG_ext t _ _ q m hq]; rfl
theorem hexF_ext : ∀ (l : List UInt8) (h : Int) (r : List UInt8 × Nat) (m : List UInt8), hexF h l = .inl r → hexF h (l ++ m) = .inl r
  | [], _, r, m, h => by rw [hexF] at h; cases h
  | c :: t, h, r, m, he => by
    rw [List.cons_append]
    rw [hexF] at he ⊢
    have step : ∀ (h' : Int) (f : List UInt8 → List UInt8), (match hexF h' t with | .inl r => (Sum.inl (f r.1, r.2 + 1) : (List UInt8 × Nat) ⊕ Int) | .inr e => .inr e) = .inl r →
        (match hexF h' (t ++ m) with | .inl r => (Sum.inl (f r.1, r.2 + 1) : (List UInt8 × Nat) ⊕ Int) | .inr e => .inr e) = .inl r := by
      intro h' f hh
      cases hq : hexF h' t with
      | inr e => rw [hq] at hh; cases hh
      | inl q =>
        rw [hq] at hh
        cases hh
        rw [hexF_ext t h' q m hq]
    by_cases g1 : c = 62
    · rw [if_pos g1] at he ⊢; exact he
    · rw [if_neg g1] at he ⊢
      by_cases g2 : white c = true
      · rw [if_pos g2] at he ⊢
        exact step h (fun x => x) he
      · rw [if_neg g2] at he ⊢
        by_cases g3 : digit c < 0
        · rw [if_pos g3] at he; cases he
        · rw [if_neg g3] at he ⊢
          by_cases g4 : h < 0
          · rw [if_pos g4] at he ⊢
            exact step (digit c) (fun x => x) he
          · rw [if_neg g4] at he ⊢
            exact step (-1) (fun x => byte h (digit c) :: x) he
/-- m goes on with no regular byte. -/
def stops (m : List UInt8) : Prop := ∀ c t, m = c :: t → regular c = false
theorem runF_stop : ∀ (l m : List UInt8), l.all regular = true → stops m → runF (l ++ m) = l.length
  | [], [], _, _ => rfl
  | [], c :: t, _, h => by rw [List.nil_append, runF, if_neg (by rw [h c t rfl]; decide)]; rfl
  | c :: l, m, h, hm => by
    simp only [List.all_cons, Bool.and_eq_true] at h
    rw [List.cons_append, runF, if_pos h.1, runF_stop l m h.2 hm, List.length_cons]; omega
theorem runF_all {l : List UInt8} (h : runF l = l.length) : l.all regular = true := by
  have := (runF_take l).1
  rwa [h, List.take_length] at this
theorem lastC_all {l : List UInt8} (h : l ≠ []) (hr : l.all regular = true) : regular (Pl.lastC l) = true := by
  have hg := Pl.last_get l h
  exact List.all_eq_true.1 hr _ (List.mem_of_getElem? hg)
/-- A string that is one token. -/
def Single (u : List UInt8) (x : Tok) : Prop := next u 0 = (x, 0) ∧ x.k ≠ 0 ∧ x.a = 0 ∧ x.t = u.length
theorem single_head {u : List UInt8} {x : Tok} (h : Single u x) : ∃ c t, u = c :: t ∧ c ≠ 37 ∧ white c = false ∧ token u 0 = (x, 0) := by
  obtain ⟨hn, hk, ha, ht⟩ := h
  have hb := next_bd (s := u) (i := 0) (by rw [hn]) (by rw [hn]; exact hk)
  rw [hn] at hb
  obtain ⟨-, -, h1, h2, h3⟩ := hb
  have hsk : skip u 0 = 0 := by
    simp only [Int.toNat_zero] at h1; omega
  cases u with
  | nil => simp at ht h2; omega
  | cons c t =>
    have hs : skipF false (c :: t) = 0 := by unfold skip at hsk; rw [List.drop_zero] at hsk; omega
    obtain ⟨h37, hw⟩ := stop_head hs
    refine ⟨c, t, rfl, h37, hw, ?_⟩
    rw [← hn, next_open c t ⟨h37, hw⟩]
/-- The token of u, where u stands within a longer string. -/
theorem token_ext {u : List UInt8} {x : Tok} (pre m : List UInt8) (h : Single u x) (hm : (regular (Pl.lastC u) || decide (Pl.lastC u = 47)) = true → stops m) :
    token (pre ++ (u ++ m)) pre.length = ({ x with a := pre.length, t := pre.length + u.length }, 0) := by
  obtain ⟨c, t, rfl, h37, hw, hT⟩ := single_head h
  obtain ⟨-, hk, hA, hL⟩ := h
  have hd : (pre ++ (c :: t ++ m)).drop pre.length = c :: (t ++ m) := by rw [List.drop_left]; rfl
  have hd1 : (pre ++ (c :: t ++ m)).drop (pre.length + 1) = t ++ m := by rw [← List.drop_drop, hd]; rfl
  have hTu : token (c :: t) 0 = if c = 91 ∨ c = 93 ∨ c = 123 ∨ c = 125 then mark (c :: t) 0 1
    else if c = 60 then (if t.head? = some c then mark (c :: t) 0 2 else hex (c :: t) 0)
    else if c = 62 then (if t.head? = some c then mark (c :: t) 0 2 else refused 3)
    else if c = 47 then name (c :: t) 0
    else if c = 40 then text (c :: t) 0
    else if c = 41 then refused 3
    else word (c :: t) 0 := by rw [token, List.drop_zero]
  have hTS : token (pre ++ (c :: t ++ m)) pre.length = if c = 91 ∨ c = 93 ∨ c = 123 ∨ c = 125 then mark (pre ++ (c :: t ++ m)) pre.length 1
    else if c = 60 then (if (t ++ m).head? = some c then mark (pre ++ (c :: t ++ m)) pre.length 2 else hex (pre ++ (c :: t ++ m)) pre.length)
    else if c = 62 then (if (t ++ m).head? = some c then mark (pre ++ (c :: t ++ m)) pre.length 2 else refused 3)
    else if c = 47 then name (pre ++ (c :: t ++ m)) pre.length
    else if c = 40 then text (pre ++ (c :: t ++ m)) pre.length
    else if c = 41 then refused 3
    else word (pre ++ (c :: t ++ m)) pre.length := by rw [token, hd]
  rw [hTu] at hT
  rw [hTS]
  have cutS : ∀ n : Nat, n ≤ (c :: t).length → cut (pre ++ (c :: t ++ m)) pre.length (pre.length + n) = (c :: t).take n := by
    intro n hn
    unfold cut
    rw [hd, Nat.add_sub_cancel_left]
    show ((c :: t) ++ m).take n = _
    rw [List.take_append_of_le_length hn]
  have mk : ∀ n : Nat, mark (c :: t) 0 n = (x, 0) → mark (pre ++ (c :: t ++ m)) pre.length n = ({ x with a := pre.length, t := pre.length + (c :: t).length }, 0) := by
    intro n hn
    unfold mark at hn ⊢
    have hx := (Prod.ext_iff.1 hn).1
    simp only at hx
    have hn' : n = (c :: t).length := by rw [← hx] at hL; simp only at hL; omega
    rw [cutS n (by omega), ← hx]
    unfold cut
    rw [List.drop_zero]
    simp only [Prod.mk.injEq, Tok.mk.injEq, and_true, true_and]
    refine ⟨by omega, ?_⟩
    congr 1
    omega
  by_cases g0 : c = 91 ∨ c = 93 ∨ c = 123 ∨ c = 125
  · rw [if_pos g0] at hT ⊢
    exact mk 1 hT
  rw [if_neg g0] at hT ⊢
  by_cases g1 : c = 60
  · rw [if_pos g1] at hT ⊢
    by_cases g : t.head? = some c
    · rw [if_pos g] at hT
      have htn : t ≠ [] := by intro e; rw [e] at g; cases g
      rw [if_pos (by rw [head_app htn]; exact g)]
      exact mk 2 hT
    · rw [if_neg g] at hT
      unfold hex at hT
      rw [show (c :: t).drop (0 + 1) = t from rfl] at hT
      cases hx : hexF (-1) t with
      | inr e => rw [hx] at hT; simp only [refused] at hT; have := (Prod.ext_iff.1 hT).1; simp only at this; rw [← this] at hk; exact absurd rfl hk
      | inl r =>
        rw [hx] at hT
        simp only at hT
        have htn : t ≠ [] := by intro e; subst e; rw [hexF] at hx; cases hx
        rw [if_neg (by rw [head_app htn]; exact g)]
        unfold hex
        rw [hd1, hexF_ext t _ r m hx]
        simp only
        have ht := told_ok (by rw [hT])
        rw [ht] at hT
        have hx' := (Prod.ext_iff.1 hT).1
        simp only at hx'
        unfold told at ht ⊢
        by_cases hl : (32767 : Int) < (r.1.length : Int)
        · rw [if_pos hl] at ht; cases ht
        · rw [if_neg hl, ← hx']
          rw [← hx'] at hL
          simp only at hL
          simp only [Prod.mk.injEq, Tok.mk.injEq, and_true, true_and]
          omega
  rw [if_neg g1] at hT ⊢
  by_cases g2 : c = 62
  · rw [if_pos g2] at hT ⊢
    by_cases g : t.head? = some c
    · rw [if_pos g] at hT
      have htn : t ≠ [] := by intro e; rw [e] at g; cases g
      rw [if_pos (by rw [head_app htn]; exact g)]
      exact mk 2 hT
    · rw [if_neg g] at hT
      simp only [refused] at hT; have := (Prod.ext_iff.1 hT).1; simp only at this; rw [← this] at hk; exact absurd rfl hk
  rw [if_neg g2] at hT ⊢
  by_cases g3 : c = 47
  · rw [if_pos g3] at hT ⊢
    unfold name at hT ⊢
    have hru : run (c :: t) (0 + 1) = 1 + runF t := rfl
    rw [hru] at hT
    have hrS : run (pre ++ (c :: t ++ m)) (pre.length + 1) = pre.length + 1 + runF (t ++ m) := by unfold run; rw [hd1]
    cases hx : nameF (cut (c :: t) (0 + 1) (1 + runF t)) with
    | none => rw [hx] at hT; simp only [refused] at hT; have := (Prod.ext_iff.1 hT).1; simp only at this; rw [← this] at hk; exact absurd rfl hk
    | some y =>
      rw [hx] at hT
      simp only at hT
      have ht := told_ok (by rw [hT])
      rw [ht] at hT
      have hx' := (Prod.ext_iff.1 hT).1
      simp only at hx'
      have hrl : runF t = t.length := by rw [← hx'] at hL; simp only [List.length_cons] at hL; omega
      have hall := runF_all hrl
      have hst : stops m := by
        refine hm ?_
        cases t with
        | nil => rw [g3]; decide
        | cons d t =>
          have : Pl.lastC (c :: d :: t) = Pl.lastC (d :: t) := Pl.lastC_append [c] (d :: t) (by simp)
          rw [this, lastC_all (by simp) hall]; rfl
      rw [hrS, runF_stop t m hall hst]
      have hc2 : cut (pre ++ (c :: t ++ m)) (pre.length + 1) (pre.length + 1 + t.length) = t := by
        unfold cut
        rw [hd1, Nat.add_sub_cancel_left, List.take_left]
      have hc1 : cut (c :: t) (0 + 1) (1 + runF t) = t := by
        unfold cut
        rw [hrl, show 1 + t.length - (0 + 1) = t.length by omega]
        exact List.take_length
      rw [hc1] at hx
      rw [hc2, hx]
      simp only
      unfold told at ht ⊢
      by_cases hl : (127 : Int) < (y.length : Int)
      · rw [if_pos hl] at ht; cases ht
      · rw [if_neg hl, ← hx']
        simp only [Prod.mk.injEq, Tok.mk.injEq, and_true, true_and, List.length_cons]
        omega
  rw [if_neg g3] at hT ⊢
  by_cases g4 : c = 40
  · rw [if_pos g4] at hT ⊢
    unfold text at hT
    rw [show (c :: t).drop (0 + 1) = t from rfl] at hT
    cases hx : textG 0 1 t with
    | none => rw [hx] at hT; simp only [refused] at hT; have := (Prod.ext_iff.1 hT).1; simp only at this; rw [← this] at hk; exact absurd rfl hk
    | some r =>
      rw [hx] at hT
      simp only at hT
      unfold text
      rw [hd1, textG_ext t _ _ r m hx]
      simp only
      have ht := told_ok (by rw [hT])
      rw [ht] at hT
      have hx' := (Prod.ext_iff.1 hT).1
      simp only at hx'
      unfold told at ht ⊢
      by_cases hl : (32767 : Int) < (r.1.length : Int)
      · rw [if_pos hl] at ht; cases ht
      · rw [if_neg hl, ← hx']
        rw [← hx'] at hL
        simp only at hL
        simp only [Prod.mk.injEq, Tok.mk.injEq, and_true, true_and]
        omega
  rw [if_neg g4] at hT ⊢
  by_cases g5 : c = 41
  · rw [if_pos g5] at hT
    simp only [refused] at hT; have := (Prod.ext_iff.1 hT).1; simp only at this; rw [← this] at hk; exact absurd rfl hk
  rw [if_neg g5] at hT ⊢
  unfold word at hT ⊢
  have hwk := wordT_ok (by rw [hT])
  have hru : run (c :: t) 0 = runF (c :: t) := by unfold run; rw [List.drop_zero, Nat.zero_add]
  rw [hru] at hT hwk
  have hrl : runF (c :: t) = (c :: t).length := by
    have := hwk.2.2
    rw [hT] at this
    simp only at this
    omega
  have hall := runF_all hrl
  have hst : stops m := hm (by rw [lastC_all (by simp) hall]; rfl)
  have hrS : run (pre ++ (c :: t ++ m)) pre.length = pre.length + (c :: t).length := by
    unfold run
    rw [hd]
    show _ + runF ((c :: t) ++ m) = _
    rw [runF_stop _ _ hall hst]
  rw [hrl, cut_full] at hT
  rw [hrS, cutS _ (Nat.le_refl _), List.take_length]
  rw [wordT_move (by rw [hT]) (pre.length : Int) ((pre.length + (c :: t).length : Nat) : Int), hT]
  simp only [Prod.mk.injEq, Tok.mk.injEq, and_true, true_and]
  omega
/- JOINS -/
def gap (last : UInt8) (p : List UInt8) : List UInt8 := if (regular last || decide (last = 47)) && (p.head?.any regular) then [32] else []
def joinR : UInt8 → List (List UInt8) → List UInt8
  | _, [] => []
  | last, p :: ps => gap last p ++ (p ++ joinR (Pl.lastC p) ps)
theorem gap_cons (last c : UInt8) (t : List UInt8) : gap last (c :: t) = if ((regular last || decide (last = 47)) && regular c) = true then [32] else [] := rfl
theorem glue_gap (acc p : List UInt8) (h : p ≠ []) : Pl.glue acc p = acc ++ (gap (Pl.lastC acc) p ++ p) := by
  cases p with
  | nil => exact absurd rfl h
  | cons c t =>
    rw [gap_cons, Pl.glue]
    by_cases hc : ((regular (Pl.lastC acc) || decide (Pl.lastC acc = 47)) && regular c) = true
    · rw [if_pos hc, if_pos hc]; simp
    · rw [if_neg hc, if_neg hc]; simp
theorem foldl_joinR : ∀ (ps : List (List UInt8)) (acc : List UInt8), (∀ p ∈ ps, p ≠ []) → ps.foldl Pl.glue acc = acc ++ joinR (Pl.lastC acc) ps
  | [], acc, _ => by simp [joinR]
  | p :: ps, acc, h => by
    have hp := h p (List.mem_cons_self ..)
    rw [List.foldl_cons, foldl_joinR ps _ (fun q hq => h q (List.mem_cons_of_mem _ hq)), Pl.lastC_glue _ _ hp, glue_gap _ _ hp, joinR]
    simp
theorem join_joinR (ps : List (List UInt8)) (h : ∀ p ∈ ps, p ≠ []) : Pl.join ps = joinR 32 ps := by
  rw [Pl.join, foldl_joinR ps [] h]; rfl
/-- The tokens and the parts fit. -/
def Fits (s : List UInt8) : Int → List Tok → List (List UInt8) → Prop
  | a, [], [] => a = s.length
  | a, x :: l, p :: ps => 0 ≤ a ∧ (x.a = a ∨ (x.a = a + 1 ∧ x.a ≤ s.length ∧ cut s a.toNat x.a.toNat = [32])) ∧ x.a ≤ x.t ∧ x.t ≤ s.length ∧ cut s x.a.toNat x.t.toNat = p ∧ Fits s x.t l ps
  | _, _, _ => False
theorem stops_join (last : UInt8) (ps : List (List UInt8)) (h : ∀ p ∈ ps, p ≠ []) (hl : (regular last || decide (last = 47)) = true) : stops (joinR last ps) := by
  intro c t he
  cases ps with
  | nil => cases he
  | cons p ps =>
    have hp := h p (List.mem_cons_self ..)
    cases p with
    | nil => exact absurd rfl hp
    | cons d p =>
      rw [joinR, gap_cons, hl, Bool.true_and] at he
      by_cases hd : regular d = true
      · rw [if_pos hd] at he
        injection he with e1 _
        subst e1; decide
      · rw [if_neg hd] at he
        injection he with e1 _
        subst e1; simpa using hd
theorem joins_chain : ∀ (ps : List (List UInt8)) (pre : List UInt8) (last : UInt8), (∀ p ∈ ps, ∃ x, Single p x) → ∃ l : List Tok, Chain (pre ++ joinR last ps) pre.length l ∧ l.length = ps.length ∧ Fits (pre ++ joinR last ps) pre.length l ps
  | [], pre, last, _ => by
    refine ⟨[], ?_, rfl, ?_⟩
    · simp only [joinR, List.append_nil, Chain]
      refine ⟨by omega, by omega, ?_⟩
      unfold skip
      rw [Int.toNat_natCast, List.drop_length]; rfl
    · simp [joinR, Fits]
  | p :: ps, pre, last, h => by
    obtain ⟨x, hx⟩ := h p (List.mem_cons_self ..)
    have hne : ∀ q ∈ ps, q ≠ [] := by
      intro q hq
      obtain ⟨y, hy⟩ := h q (List.mem_cons_of_mem _ hq)
      obtain ⟨c, t, e, _⟩ := single_head hy
      rw [e]; simp
    obtain ⟨c, t, hp, h37, hw, _⟩ := single_head hx
    have hS : pre ++ joinR last (p :: ps) = (pre ++ gap last p) ++ (p ++ joinR (Pl.lastC p) ps) := by rw [joinR]; simp
    have hS2 : pre ++ joinR last (p :: ps) = (pre ++ gap last p ++ p) ++ joinR (Pl.lastC p) ps := by rw [joinR]; simp
    have hT := token_ext (pre ++ gap last p) (joinR (Pl.lastC p) ps) hx (fun hl => stops_join _ ps hne hl)
    rw [← hS] at hT
    obtain ⟨l, hc, hlen, hf⟩ := joins_chain ps (pre ++ gap last p ++ p) (Pl.lastC p) (fun q hq => h q (List.mem_cons_of_mem _ hq))
    rw [← hS2] at hc hf
    have hgap : gap last p = [] ∨ gap last p = [32] := by unfold gap; split <;> simp
    have hsk : skip (pre ++ joinR last (p :: ps)) pre.length = (pre ++ gap last p).length := by
      unfold skip
      rw [joinR, List.drop_left, List.length_append]
      congr 1
      rcases hgap with e | e
      · rw [e, List.nil_append, hp, List.cons_append, skipF, if_neg h37, if_neg (by rw [hw]; decide)]; rfl
      · rw [e, hp, List.cons_append, List.nil_append, List.cons_append, skipF, if_neg (by decide), if_pos (by decide), skipF, if_neg h37, if_neg (by rw [hw]; decide)]; rfl
    have hlp : (pre ++ joinR last (p :: ps)).length = pre.length + (gap last p).length + p.length + (joinR (Pl.lastC p) ps).length := by
      rw [hS2]; simp; omega
    have hlj : (joinR last (p :: ps)).length = (gap last p).length + p.length + (joinR (Pl.lastC p) ps).length := by rw [joinR]; simp; omega
    have hn : next (pre ++ joinR last (p :: ps)) pre.length = ({ x with a := (pre ++ gap last p).length, t := (pre ++ gap last p).length + p.length }, 0) := by
      unfold next
      rw [if_neg (by omega), Int.toNat_natCast, hsk, hT]
    have hto : (((pre ++ gap last p).length : Nat) : Int) + (p.length : Int) = ((pre ++ gap last p ++ p).length : Nat) := by simp; omega
    refine ⟨{ x with a := (pre ++ gap last p).length, t := (pre ++ gap last p).length + p.length } :: l, ⟨by omega, by omega, hn, hx.2.1, ?_⟩, by simp [hlen], by omega, ?_, by simp only; omega, by simp only [List.length_append]; omega, ?_, ?_⟩
    · simp only; rw [hto]; exact hc
    · simp only
      rcases hgap with e | e
      · left; rw [e]; simp
      · right
        rw [e]
        refine ⟨by simp, by rw [e, List.length_singleton] at hlj; simp only [List.length_append, List.length_singleton]; omega, ?_⟩
        unfold cut
        rw [joinR, e, Int.toNat_natCast, Int.toNat_natCast, List.drop_left, List.length_append, Nat.add_sub_cancel_left]; rfl
    · simp only
      rw [hto, Int.toNat_natCast, Int.toNat_natCast]
      unfold cut
      rw [hS, List.drop_left, show (pre ++ gap last p ++ p).length = (pre ++ gap last p).length + p.length from List.length_append, Nat.add_sub_cancel_left, List.take_left]
    · simp only; rw [hto]; exact hf
theorem chain_upto (s : List UInt8) : ∀ (l : List Tok) (a : Int) (m : Nat), Chain s a l → l.length < m → upto s m a = .inl l
  | [], a, 0, _, h => by simp at h
  | [], a, m + 1, hc, _ => by
    obtain ⟨h0, h1, h2⟩ := hc
    have hn : next s a = (⟨0, s.length, s.length, 0, []⟩, 0) := by
      unfold next
      rw [if_neg (by omega), h2, token, List.drop_length]
    rw [upto, hn, if_neg (by simp), if_pos rfl]
  | x :: l, a, 0, _, h => by simp at h
  | x :: l, a, m + 1, hc, h => by
    obtain ⟨h0, h1, hn, hk, hc⟩ := hc
    rw [upto, hn, if_neg (by simp), if_neg hk, chain_upto s l x.t m hc (by simpa using h)]
theorem joins_upto (ps : List (List UInt8)) (m : Nat) (hm : ps.length < m) (h : ∀ p ∈ ps, ∃ x, Single p x) : ∃ l : List Tok, upto (Pl.join ps) m 0 = .inl l ∧ l.length = ps.length ∧ Fits (Pl.join ps) 0 l ps := by
  have hne : ∀ q ∈ ps, q ≠ [] := by
    intro q hq
    obtain ⟨y, hy⟩ := h q hq
    obtain ⟨c, t, e, _⟩ := single_head hy
    rw [e]; simp
  obtain ⟨l, h1, h2, h3⟩ := joins_chain ps [] 32 h
  rw [List.nil_append, ← join_joinR ps hne] at h1 h3
  exact ⟨l, chain_upto _ l 0 m h1 (by omega), h2, h3⟩
end Lx
end Go.Proofs.YtiklhhdohckfiaaGreatDoor
/- Plain mathematics of layer 17: places of parts, file headers, file ends; no program in sight. -/
namespace Go.Proofs.YtiklhhdohckfiaaGreatDoor
set_option linter.unusedVariables false
set_option linter.unusedSimpArgs false
set_option linter.defProp false
open Go
namespace Hd
open Oc Lx
/- PLACES -/
def last (s p : List UInt8) : Int := if p = [] then -1 else Lib.lastIndex s p
/- HEADERS -/
def mark : List UInt8 := [37, 80, 68, 70, 45]
def startx : List UInt8 := [115, 116, 97, 114, 116, 120, 114, 101, 102]
def eof : List UInt8 := [37, 37, 69, 79, 70]
def headTail : List UInt8 := [10, 37, 226, 227, 207, 211, 10]
def text (m : Int) : List UInt8 × Int := if m < 0 ∨ 9 < m then ([], 2) else (mark ++ [49, 46] ++ [UInt8.ofNat (48 + m.toNat)] ++ headTail, 0)
def start (s : List UInt8) : Int × Int :=
  if last s startx < 0 then (0, 18)
  else if (next s (last s startx + 9)).2 ≠ 0 ∨ (next s (last s startx + 9)).1.k ≠ 1 ∨ (next s (last s startx + 9)).1.n < 0 ∨ (s.length : Int) ≤ (next s (last s startx + 9)).1.n then (0, 18)
  else ((next s (last s startx + 9)).1.n, 0)
def tail (n : Int) : List UInt8 := if n < 0 ∨ 2147483647 < n then [] else startx ++ [10] ++ Lib.itoa n ++ [10] ++ eof ++ [10]
/- ENDS -/
end Hd
end Go.Proofs.YtiklhhdohckfiaaGreatDoor
/- Plain mathematics of layer 17: written headers and tails are read back; ends of a concatenation. -/
namespace Go.Proofs.YtiklhhdohckfiaaGreatDoor
set_option linter.unusedVariables false
set_option linter.unusedSimpArgs false
set_option linter.defProp false
open Go
namespace Hd
open Oc Lx
/- BACK -/
/- CONCATENATIONS -/
theorem last_get {s : List UInt8} (h : s.getLast? = some 10) : 0 < s.length ∧ s[s.length - 1]? = some 10 := by
  rw [List.getLast?_eq_getElem?] at h
  exact ⟨by cases s with | nil => simp at h | cons => simp, h⟩
/- THEY RISE -/
end Hd
end Go.Proofs.YtiklhhdohckfiaaGreatDoor
/- Plain mathematics of layer 55: steps, their lines; no program in sight. -/
namespace Go.Proofs.YtiklhhdohckfiaaGreatDoor
set_option linter.unusedVariables false
set_option linter.unusedSimpArgs false
set_option linter.defProp false
open Go
namespace Sc
open Lx
structure Step where
  k : Int
  a : Int
  b : Int
  s : List UInt8
  t : List UInt8
 deriving DecidableEq
def words : List (List UInt8) := [[111, 112, 101, 110], [110, 101, 119], [112, 117, 116], [100, 114, 111, 112], [105, 110, 115, 101, 114, 116], [114, 101, 109, 111, 118, 101], [109, 111, 118, 101], [110, 97, 109, 101], [102, 105, 108, 108], [99, 108, 101, 97, 110], [115, 97, 118, 101], [114, 101, 111, 112, 101, 110], [116, 101, 120, 116], [102, 105, 110, 100], [99, 111, 117, 110, 116], [111, 98, 106, 101, 99, 116], [97, 117, 100, 105, 116], [115, 112, 111, 105, 108], [111, 117, 116, 108, 105, 110, 101], [102, 105, 101, 108, 100, 115], [99, 111, 110, 116, 101, 110, 116, 115]]
def usesL : List (List UInt8) := [[83], [65], [65, 83], [65], [65, 83], [65], [65, 66], [83, 65], [83, 84], [], [65], [], [65], [83], [], [65], [], [65, 66], [], [], [65]]
def uses (k : Int) : Option (List UInt8) := if 1 ≤ k ∧ k ≤ 21 then usesL[k.toNat - 1]? else none
def check (x : Step) : Int :=
  match uses x.k with
  | none => 10
  | some u => if (65 ∉ u ∧ x.a ≠ 0) ∨ (66 ∉ u ∧ x.b ≠ 0) ∨ (83 ∉ u ∧ x.s ≠ []) ∨ (84 ∉ u ∧ x.t ≠ []) then 10
    else if x.a < 0 ∨ 2147483647 < x.a ∨ x.b < 0 ∨ 2147483647 < x.b then 2
    else if 32767 < x.s.length ∨ 32767 < x.t.length then 5 else 0
def field (x : Step) (c : UInt8) : List UInt8 :=
  if c = 65 then Lib.itoa x.a else if c = 66 then Lib.itoa x.b else if c = 83 then Pl.str x.s else if c = 84 then Pl.str x.t else []
def fields (x : Step) (u : List UInt8) : List UInt8 := u.flatMap fun c => 32 :: field x c
def word (k : Int) : List UInt8 := words.getD (k.toNat - 1) []
def lineT (x : Step) : List UInt8 := word x.k ++ fields x ((uses x.k).getD [])
def line (x : Step) : List UInt8 × Int := if check x ≠ 0 then ([], check x) else if 65535 < (lineT x).length then ([], 5) else (lineT x, 0)
/- THE PROGRAM'S WAY BACK -/
def head (l : List UInt8) : List UInt8 := l.takeWhile fun c => c != 32
def put (x : Step) (c : UInt8) (n : Int) (s : List UInt8) : Step :=
  if c = 65 then { x with a := n } else if c = 66 then { x with b := n } else if c = 83 then { x with s := s } else if c = 84 then { x with t := s } else x
def want (c : UInt8) : Int := if c = 65 ∨ c = 66 then 1 else 3
end Sc
end Go.Proofs.YtiklhhdohckfiaaGreatDoor
/- Code in continuation form, by program (gen.py): 6 functions. -/
namespace Go.Proofs.YtiklhhdohckfiaaGreatDoor
set_option linter.unusedVariables false
set_option linter.unusedSimpArgs false
set_option linter.defProp false
set_option linter.unusedVariables false
set_option maxRecDepth 20000
open Eng

/- octet.Digit -/
/- octet.Unhex -/
/- octet.Begins -/
/- octet.Skip -/
/- octet.Line -/
/- octet.ends -/
end Go.Proofs.YtiklhhdohckfiaaGreatDoor
/- Contracts: octet (ends, Begins, Line, Skip, Digit, Unhex) of the program. -/
namespace Go.Proofs.YtiklhhdohckfiaaGreatDoor
set_option linter.unusedVariables false
set_option linter.unusedSimpArgs false
set_option linter.defProp false
open Eng Go.RowKit

def begins (s p : List UInt8) (k : Int) : Bool := decide (0 ≤ k) && decide (k ≤ (s.length : Int)) && p.isPrefixOf (s.drop k.toNat)
theorem crlf_begins (s : List UInt8) (k : Nat) (hk : k < s.length) (h : s[k] = 13) : begins s [13, 10] (k : Int) = decide ((s.drop (k + 1)).head? = some 10) := by
  unfold begins
  rw [Int.toNat_natCast, Lx.drop_cons hk, h, decide_eq_true (by omega), decide_eq_true (by omega)]
  cases hd : s.drop (k + 1) with
  | nil => simp
  | cons d t =>
    by_cases h10 : d = 10
    · subst h10; simp
    · have : ¬ (10 = d) := fun e => h10 e.symm
      have h11 : ((10 : UInt8) == d) = false := by simp [this]
      have h12 : ¬ (some d = some (10 : UInt8)) := by simpa using h10
      rw [List.head?_cons, decide_eq_false h12]
      simp [List.isPrefixOf, h11]
end Go.Proofs.YtiklhhdohckfiaaGreatDoor
/- Code in continuation form, by program (gen.py): 17 functions. -/
namespace Go.Proofs.YtiklhhdohckfiaaGreatDoor
set_option linter.unusedVariables false
set_option linter.unusedSimpArgs false
set_option linter.defProp false
set_option linter.unusedVariables false
set_option maxRecDepth 20000
open Eng

/- lex.Next -/
/- lex.All -/
/- lex.Upto -/
/- lex.tokens -/
/- lex.tokens$1 -/
/- (lex.cutter).mark -/
/- lex.refused -/
/- (lex.cutter).run -/
/- (lex.cutter).told -/
/- (lex.cutter).name -/
/- (lex.cutter).end -/
/- (lex.cutter).escaped -/
/- (lex.cutter).text -/
/- (lex.cutter).hex -/
/- lex.class -/
/- lex.whole -/
/- (lex.cutter).word -/
end Go.Proofs.YtiklhhdohckfiaaGreatDoor
/- Contracts: lex (mark, refused, run, told, name, end) of the program. -/
namespace Go.Proofs.YtiklhhdohckfiaaGreatDoor
set_option linter.unusedVariables false
set_option linter.unusedSimpArgs false
set_option linter.defProp false
open Eng Go.RowKit

def tokC (x : Lx.Tok) : List Value := [.int .i64 x.k, .int .i64 x.a, .int .i64 x.t, .int .i64 x.n, .string ⟨x.s.toArray⟩]
def tokV (x : Lx.Tok) : Value := .agg (tokC x).toArray
def tokR (r : Lx.Tok × Int) : Value := .tuple #[tokV r.1, .int .i64 r.2]
def tokE (b : Nat) (x : Lx.Tok) : Ent := .cells b (tokC x) 41
theorem aggTok : aggN Tryz.prog 41 = some 5 := by kernel_rfl
theorem nInt : notAgg Tryz.prog 3 = true := by kernel_rfl
theorem nErr : notAgg Tryz.prog 28 = true := by kernel_rfl
theorem szTok : (Tryz.prog.info? 41).map (·.size) = some 5 := by kernel_rfl
section
variable {w : World} {PK : List PanicEntry → World → Prop} {K : Value → World → Prop} {S : Nat → Prop} {w0 : World} {L : List Ent}
theorem o_tok (ho : OwnS S w0 w L) (k : ∀ b w', OwnS S w0 w' (tokE b Lx.none_ :: L) → K (.pointer (some ⟨b, 0, none⟩)) w') : DoX Tryz.prog (mAlloc 41) w PK K :=
  o_new (fun b => .pointer (some ⟨b, 0, none⟩)) (tokC Lx.none_) 41 (fun _ => by kernel_rfl) ho k
theorem tokC_one (x : Lx.Tok) : ∀ v ∈ tokC x, v.oneCell' = true := by
  intro v hv
  simp only [tokC, List.mem_cons, List.not_mem_nil, or_false] at hv
  rcases hv with rfl | rfl | rfl | rfl | rfl <;> rfl
/-- A token is put into a variable, and returned with an error. -/
theorem tok_put {KE : Ending → World → Prop} (i : Nat) {b : Nat} {x y : Lx.Tok} {e : Int} (ho : Own w0 w L) (hi : L[i]? = some (tokE b x)) (k : ∀ w', Own w0 w' (L.set i (tokE b y)) → KE (.returned (tokR (y, e))) w') :
    DoX Tryz.prog (mStore 41 (.pointer (some ⟨b, 0, none⟩)) (tokV y)) w PK fun _ w => RetX Tryz.prog [.cell (.pointer (some ⟨b, 0, none⟩)) 41, .val (.int .i64 e)] w KE := by
  refine o_put i ho hi (new := tokC y) szTok (tokC_one y) rfl fun w' ho' => ?_
  have hi' : (L.set i (tokE b y))[i]? = some (tokE b y) := by
    have := (List.getElem?_eq_some_iff.1 hi).1
    simp [this]
  exact ret_v2 (rv_cell (ho'.agg i hi' aggTok)) rv_val (k w' ho')
theorem x_0 {a b : Value} : DoX Tryz.prog (mExt (.tuple #[a, b]) 0) w PK K = K a w := do_eq (by kernel_rfl)
theorem x_1 {a b : Value} : DoX Tryz.prog (mExt (.tuple #[a, b]) 1) w PK K = K b w := do_eq (by kernel_rfl)
/-- A call whose token and error are returned. -/
theorem tok_tail {KE : Ending → World → Prop} {PK1 PK2 PK3 PK4 : List PanicEntry → World → Prop} (i : Nat) {b : Nat} {x : Lx.Tok} {r : Lx.Tok × Int} {f : Nat} {args : Array Value} (ho : Own w0 w L) (hi : L[i]? = some (tokE b x))
    (h : Ret Tryz.prog f args w (fun v w' => v = tokR r ∧ Below w.heap.size w w')) (k : ∀ w', Below w0.heap.size w0 w' → KE (.returned (tokR r)) w') :
    CallX Tryz.prog f args w PK1 fun t w => DoX Tryz.prog (mExt t 0) w PK2 fun u w => DoX Tryz.prog (mExt t 1) w PK3 fun v w => DoX Tryz.prog (mStore 41 (.pointer (some ⟨b, 0, none⟩)) u) w PK4 fun _ w => RetX Tryz.prog [.cell (.pointer (some ⟨b, 0, none⟩)) 41, .val v] w KE := by
  refine c_below ho h ?_
  rintro v w' rfl ho'
  rw [tokR, x_0, x_1]
  exact tok_put i ho' hi fun w' ho => k w' ho.done
theorem m_tok0 : DoX Tryz.prog (mBuild 41 #[]) w PK K = K (tokV Lx.none_) w := do_eq (by kernel_rfl)
theorem m_tok4 {k a t : Int} {s : List UInt8} : DoX Tryz.prog (mBuild 41 #[(0, .int .i64 k), (1, .int .i64 a), (2, .int .i64 t), (4, .string ⟨s.toArray⟩)]) w PK K = K (tokV ⟨k, a, t, 0, s⟩) w := do_eq (by kernel_rfl)
end
end Go.Proofs.YtiklhhdohckfiaaGreatDoor
/- Contracts: octet.Unhex, names of the program. -/
namespace Go.Proofs.YtiklhhdohckfiaaGreatDoor
set_option linter.unusedVariables false
set_option linter.unusedSimpArgs false
set_option linter.defProp false
open Eng Go.RowKit

theorem byte_nat {a b : Int} (ha : 0 ≤ a) (ha2 : a ≤ 15) (hb : 0 ≤ b) (hb2 : b ≤ 15) : ((Lx.byte a b).toNat : Int) = 16 * a + b := by
  rw [Lx.byte, UInt8.toNat_ofNat']; omega
theorem unhex_odd : ∀ (n : Nat) (l : List UInt8), l.length ≤ n → l.length % 2 = 1 → Lx.unhex l = none
  | _, [], _, h => by simp at h
  | _, [_], _, _ => rfl
  | 0, _ :: _ :: _, h, _ => by simp at h
  | n + 1, a :: b :: t, hl, h => by
    simp only [List.length_cons] at hl h
    rw [Lx.unhex, unhex_odd n t (by omega) (by omega)]
    simp
theorem unhex_step {s : List UInt8} {i : Nat} (h : i + 1 < s.length) : Lx.unhex (s.drop i) = if Lx.digit s[i] < 0 ∨ Lx.digit s[i + 1] < 0 then none else (Lx.unhex (s.drop (i + 2))).map (Lx.byte (Lx.digit s[i]) (Lx.digit s[i + 1]) :: ·) := by
  rw [Lx.drop_cons (show i < s.length by omega), Lx.drop_cons h, Lx.unhex]
theorem unhexE_none {s : List UInt8} (h : Lx.unhex s = none) : Lx.unhexE s = ([], 3) := by rw [Lx.unhexE, h]
theorem unhexE_some {s x : List UInt8} (h : Lx.unhex s = some x) : Lx.unhexE s = (x, 0) := by rw [Lx.unhexE, h]
theorem m_b1 {n : Int} (w : World) (c : UInt8) (h : (c.toNat : Int) = n) : (mBuildS 73 1 #[(0, .int .u8 n)]).run Tryz.prog w = .ok (.value (.slice (some ⟨w.heap.size, 0, none⟩) [c].length [c].length)) (w.alloc (.cells (bytesV [c]).toArray 5)) := by
  subst h; kernel_rfl
/-- append(out, c): one byte. -/
theorem o_app1 {S : Nat → Prop} {w0 w : World} {L : List Ent} {v : Value} {l : List UInt8} {n : Int} {cs : Array Bool} {PK PK2 : List PanicEntry → World → Prop} {K : Value → World → Prop} (c : UInt8) (h : (c.toNat : Int) = n)
    (ho : OwnS S w0 w (BRow v l :: L)) (hb : l.length + 1 ≤ 140737488355328) (k : ∀ v' w', OwnS S w0 w' (BRow v' (l ++ [c]) :: L) → K v' w') :
    DoX Tryz.prog (mBuildS 73 1 #[(0, .int .u8 n)]) w PK fun t w => DoX Tryz.prog (mB .append #[73, 73] 73 cs #[v, t]) w PK2 K :=
  o_appB (m := [c]) (fun w => m_b1 w c h) ho (by simpa using hb) k
theorem c_8 {w : World} {PK : List PanicEntry → World → Prop} {K : Value → World → Prop} {n : Int} : DoX Tryz.prog (mConv 3 5 (.int .i64 n)) w PK K = K (.int .u8 (IntKind.wrap .u8 n)) w :=
  c_int (show (Tryz.prog.underlying 3).isSome = true by kernel_rfl) Tryz.underlying5
theorem c_64 {w : World} {PK : List PanicEntry → World → Prop} {K : Value → World → Prop} {n : Int} (h0 : 0 ≤ n) (h1 : n ≤ 255) : DoX Tryz.prog (mConv 5 3 (.int .u8 n)) w PK K = K (.int .i64 n) w := by
  rw [c_int (show (Tryz.prog.underlying 5).isSome = true by kernel_rfl) Tryz.underlying3, wrap64_id (by omega) (by omega)]
end Go.Proofs.YtiklhhdohckfiaaGreatDoor
/- Contracts: names and escapes of the program. -/
namespace Go.Proofs.YtiklhhdohckfiaaGreatDoor
set_option linter.unusedVariables false
set_option linter.unusedSimpArgs false
set_option linter.defProp false
open Eng Go.RowKit

theorem cut_nil (s : List UInt8) (i : Nat) : Lx.cut s i i = [] := by simp [Lx.cut]
theorem cut_cons {s : List UInt8} {i j : Nat} (h : i < j) (hj : j ≤ s.length) : Lx.cut s i j = s[i] :: Lx.cut s (i + 1) j := by
  unfold Lx.cut
  rw [Lx.drop_cons (show i < s.length by omega), show j - i = (j - (i + 1)) + 1 by omega, List.take_succ_cons]
theorem cut_length {s : List UInt8} {i j : Nat} (hj : j ≤ s.length) : (Lx.cut s i j).length = j - i := by
  unfold Lx.cut; simp; omega
theorem cut_one {s : List UInt8} {i : Nat} (h : i < s.length) : Lx.cut s i (i + 1) = [s[i]] := by rw [cut_cons (by omega) (by omega), cut_nil]
theorem s_cut {s : List UInt8} {i j : Nat} {x y : Int} {w : World} {PK : List PanicEntry → World → Prop} {K : Value → World → Prop} (hx : x = (i : Int)) (hy : y = (j : Int)) (h : i ≤ j) (hj : j ≤ s.length) :
    DoX Tryz.prog (mSlice 9 (.string ⟨s.toArray⟩) (some (.int .i64 x)) (some (.int .i64 y)) none) w PK K = K (.string ⟨(Lx.cut s i j).toArray⟩) w := by
  subst hx; subst hy
  rw [s_slice Tryz.underlying9 (by omega) (by omega) (by omega)]
  rfl
theorem s_at {s : List UInt8} {i : Nat} {w : World} {PK : List PanicEntry → World → Prop} {K : Value → World → Prop} (h : i < s.length) :
    DoX Tryz.prog (mIx 9 (.string ⟨s.toArray⟩) (.int .i64 (i : Int))) w PK K = K (.int .u8 (s[i].toNat : Int)) w :=
  s_ix (c := s[i]) Tryz.underlying9 (Int.natCast_nonneg i) (by simp [h])
end Go.Proofs.YtiklhhdohckfiaaGreatDoor
/- Contracts: escapes and literal strings of the program. -/
namespace Go.Proofs.YtiklhhdohckfiaaGreatDoor
set_option linter.unusedVariables false
set_option linter.unusedSimpArgs false
set_option linter.defProp false
open Eng Go.RowKit

theorem wrap8_mod (n : Int) : IntKind.wrap .u8 n = n % 256 := by
  simp [IntKind.wrap, IntKind.signed, IntKind.bits]
theorem o_str1 {S : Nat → Prop} {w0 w : World} {L : List Ent} {n : Int} {PK PK2 : List PanicEntry → World → Prop} {K : Value → World → Prop} (c : UInt8) (h : (c.toNat : Int) = n) (ho : OwnS S w0 w L)
    (k : ∀ w', OwnS S w0 w' L → K (.string ⟨[c].toArray⟩) w') :
    DoX Tryz.prog (mBuildS 73 1 #[(0, .int .u8 n)]) w PK fun t w => DoX Tryz.prog (mConv 73 9 t) w PK2 K := by
  refine o_new (fun b => .slice (some ⟨b, 0, none⟩) [c].length [c].length) (bytesV [c]) 5 (fun w => m_b1 w c h) ho fun b w' ho' => ?_
  rw [c_bytes (l := [c]) Tryz.underlying73 Tryz.underlying5 Tryz.underlying9 (ho'.sl 0 rfl 1 [c].length [c].length rfl)]
  exact k _ ho'.tail
end Go.Proofs.YtiklhhdohckfiaaGreatDoor
/- Contracts: literal strings of the program. -/
namespace Go.Proofs.YtiklhhdohckfiaaGreatDoor
set_option linter.unusedVariables false
set_option linter.unusedSimpArgs false
set_option linter.defProp false
open Eng Go.RowKit

theorem textG_eol {s : List UInt8} {i o : Nat} (h : i < s.length) (he : Lx.eol s[i] = true) : Lx.textG 0 o (s.drop i) = (Lx.textG 0 o (s.drop (Lx.line s i))).map fun r => (10 :: r.1, r.2 + (Lx.line s i - i)) := by
  have hd := Lx.drop_cons h
  have h1 := Lx.lineF_pos s[i] (s.drop (i + 1))
  have h2 := Lx.lineF_le (s.drop i)
  rw [hd] at h2
  have hl : Lx.line s i = i + Lx.lineF (s[i] :: s.drop (i + 1)) := by rw [Lx.line, hd]
  rw [hd, Lx.textG, if_pos he, Lx.textG_skip _ _ _ (by simp at h2 ⊢; omega), Option.map_map, List.drop_drop, hl, show i + 1 + (Lx.lineF (s[i] :: s.drop (i + 1)) - 1) = i + Lx.lineF (s[i] :: s.drop (i + 1)) by omega]
  congr 1
  funext r
  refine Prod.ext rfl ?_
  simp only [Function.comp]; omega
theorem textG_esc {s : List UInt8} {i o : Nat} (h : i + 1 < s.length) (he : s[i] = 92) : Lx.textG 0 o (s.drop i) = (Lx.textG 0 o (s.drop (i + 1 + (Lx.escF (s.drop (i + 1))).2))).map fun r => ((Lx.escF (s.drop (i + 1))).1 ++ r.1, r.2 + 1 + (Lx.escF (s.drop (i + 1))).2) := by
  have hd := Lx.drop_cons (show i < s.length by omega)
  have hd2 := Lx.drop_cons h
  have h2 := Lx.escF_le (s.drop (i + 1))
  have hn : Lx.eol s[i] = false := by rw [he]; rfl
  rw [hd, Lx.textG, if_neg (by rw [hn]; decide), if_pos he]
  rw [if_neg (by rw [hd2]; exact List.cons_ne_nil _ _), Lx.textG_skip _ _ _ h2, Option.map_map, List.drop_drop]
  congr 1
  funext r
  refine Prod.ext rfl ?_
  simp only [Function.comp]; omega
end Go.Proofs.YtiklhhdohckfiaaGreatDoor
/- Contracts: hexadecimal strings of the program. -/
namespace Go.Proofs.YtiklhhdohckfiaaGreatDoor
set_option linter.unusedVariables false
set_option linter.unusedSimpArgs false
set_option linter.defProp false
open Eng Go.RowKit

def n3 (vs : List Value) : Nat := (intOf (vs.getD 3 undef)).toNat
end Go.Proofs.YtiklhhdohckfiaaGreatDoor
/- Contracts: words of the program, Next. -/
namespace Go.Proofs.YtiklhhdohckfiaaGreatDoor
set_option linter.unusedVariables false
set_option linter.unusedSimpArgs false
set_option linter.defProp false
open Eng Go.RowKit

theorem sgn_not_dig (c : UInt8) (h : Lx.sgn c = true) : Lx.dig c = false := by
  simp only [Lx.sgn, Bool.or_eq_true, decide_eq_true_eq] at h
  rcases h with rfl | rfl <;> rfl
end Go.Proofs.YtiklhhdohckfiaaGreatDoor
/- Contract: lex.Next. -/
namespace Go.Proofs.YtiklhhdohckfiaaGreatDoor
set_option linter.unusedVariables false
set_option linter.unusedSimpArgs false
set_option linter.defProp false
open Eng Go.RowKit

end Go.Proofs.YtiklhhdohckfiaaGreatDoor
