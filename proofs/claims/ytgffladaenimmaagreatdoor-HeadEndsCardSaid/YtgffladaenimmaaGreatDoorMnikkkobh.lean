/- Texts that go together: SRef04 PlR LxC LxD LxE LxF LxG FixU FixV FixW LxH LxI SRef03 LxR Plain03C Plain03D Plain03E Plain04B Plain03F. -/
import Derived.Test.YtgffladaenimmaaGreatDoorRows
import Derived.Laws.RangeAny
import Derived.Test.YtgffladaenimmaaGreatDoorMabjmbpao
import Derived.Test.YtgffladaenimmaaGreatDoorMcajbfhim
/- Code in continuation form, by program (gen.py): 12 functions. -/
namespace Go.Proofs.YtgffladaenimmaaGreatDoor
set_option linter.unusedVariables false
set_option linter.unusedSimpArgs false
set_option linter.defProp false
set_option linter.unusedVariables false
set_option maxRecDepth 20000
open Eng

/- foliantref04.Int -/
def S_foliantref04_Int (t0 : Value) (w : World) (K : Ending → World → Prop) : Prop :=
 DoX Tryz.prog (mBin .lss 2 t0 (.int .i64 (-2147483647))) w (pk K) fun t5 w =>
 GDo t5 false (fun E => E t0 w) w fun t7 w =>
 GDo t5 false (fun E => DoX Tryz.prog (mBin .gtr 2 t7 (.int .i64 2147483647)) w (pk K) E) w fun t8 w =>
 DoX Tryz.prog (mPick t5 (.bool true) t8) w (pk K) fun t9 w =>
 IfX t9 (K (.returned (.tuple #[(.string ⟨#[]⟩), (.int .i64 2)])) w) (DoX Tryz.prog (mBin .lss 2 t0 (.int .i64 0)) w (pk K) fun t11 w =>
 IfX t11 (DoX Tryz.prog (mUn .neg t0) w (pk K) fun t13 w =>
 CallX Tryz.prog 88 #[t13] w (pk K) fun t14 w =>
 DoX Tryz.prog (mBin .add 9 (.string ⟨#[45]⟩) t14) w (pk K) fun t15 w =>
 K (.returned (.tuple #[t15, (.int .i64 0)])) w) (CallX Tryz.prog 88 #[t0] w (pk K) fun t17 w =>
 K (.returned (.tuple #[t17, (.int .i64 0)])) w))
theorem S_foliantref04_Int_eq (t0 : Value) (w : World) (K : Ending → World → Prop) : wpX Tryz.prog 18 [] [] none (bodyOf Tryz.f48) (topQ Tryz.prog [.tmp 2, .tmp 3] K) (startX [t0]) [] w = S_foliantref04_Int t0 w K := by kernel_rfl
theorem S_foliantref04_Int_ok {t0 : Value} {w : World} {K : Ending → World → Prop} (h : S_foliantref04_Int t0 w K) : Calls Tryz.prog 48 #[t0] w K :=
  calls_of_wpX Tryz.func48 rfl rfl rfl rfl (Eq.mpr (S_foliantref04_Int_eq t0 w K) h)

/- foliantref04.Real -/
/- foliantref04.String -/
def S_foliantref04_String_2 (t4 t5 : Value) (w : World) (N1 : List Value → World → Prop) (K : Ending → World → Prop) : Prop :=
 DoX Tryz.prog (mBin .add 3 t5 (.int .i64 1)) w (pk K) fun t16 w =>
 N1 [t4, t16] w
def S_foliantref04_String_1 (t4 t6 : Value) (w : World) (J2 : List Value → World → Prop) (K : Ending → World → Prop) : Prop :=
 DoX Tryz.prog (mBuildS 88 1 #[(0, t6)]) w (pk K) fun t54 w =>
 DoX Tryz.prog (mB .append #[88, 88] 88 #[false, false] #[t4, t54]) w (pk K) fun t55 w =>
 J2 [t55] w
def S_foliantref04_String_0 (t0 t4 t5 : Value) (w : World) (N1 : List Value → World → Prop) (K : Ending → World → Prop) : Prop :=
 DoX Tryz.prog (mB .len #[9] 3 #[false] #[t0]) w (pk K) fun t13 w =>
 DoX Tryz.prog (mBin .lss 3 t5 t13) w (pk K) fun t14 w =>
 IfX t14 (JoinX (fun J2 =>
 DoX Tryz.prog (mIx 9 t0 t5) w (pk K) fun t19 w =>
 DoX Tryz.prog (mBin .lss 5 t19 (.int .u8 32)) w (pk K) fun t21 w =>
 GDo t21 false (fun E => E t19 w) w fun t23 w =>
 GDo t21 false (fun E => DoX Tryz.prog (mBin .gtr 5 t23 (.int .u8 126)) w (pk K) E) w fun t24 w =>
 DoX Tryz.prog (mPick t21 (.bool true) t24) w (pk K) fun t25 w =>
 IfX t25 (DoX Tryz.prog (mBin .quo 5 t19 (.int .u8 64)) w (pk K) fun t28 w =>
 DoX Tryz.prog (mBin .add 5 (.int .u8 48) t28) w (pk K) fun t29 w =>
 DoX Tryz.prog (mBin .quo 5 t19 (.int .u8 8)) w (pk K) fun t31 w =>
 DoX Tryz.prog (mBin .rem 5 t31 (.int .u8 8)) w (pk K) fun t32 w =>
 DoX Tryz.prog (mBin .add 5 (.int .u8 48) t32) w (pk K) fun t33 w =>
 DoX Tryz.prog (mBin .rem 5 t19 (.int .u8 8)) w (pk K) fun t35 w =>
 DoX Tryz.prog (mBin .add 5 (.int .u8 48) t35) w (pk K) fun t36 w =>
 DoX Tryz.prog (mBuildS 88 4 #[(0, (.int .u8 92)), (1, t29), (2, t33), (3, t36)]) w (pk K) fun t37 w =>
 DoX Tryz.prog (mB .append #[88, 88] 88 #[false, false] #[t4, t37]) w (pk K) fun t38 w =>
 J2 [t38] w) (JoinX (fun J3 =>
 DoX Tryz.prog (mEq .eql 5 (.tmp 39) (.const (.int .u8 40)) t19 (.int .u8 40)) w (pk K) fun t40 w =>
 GDo t40 false (fun E => E t19 w) w fun t42 w =>
 GDo t40 false (fun E => DoX Tryz.prog (mEq .eql 5 (.tmp 42) (.const (.int .u8 41)) t42 (.int .u8 41)) w (pk K) E) w fun t43 w =>
 DoX Tryz.prog (mPick t40 (.bool true) t43) w (pk K) fun t44 w =>
 GDo t44 false (fun E => E t19 w) w fun t46 w =>
 GDo t44 false (fun E => DoX Tryz.prog (mEq .eql 5 (.tmp 46) (.const (.int .u8 92)) t46 (.int .u8 92)) w (pk K) E) w fun t47 w =>
 DoX Tryz.prog (mPick t44 (.bool true) t47) w (pk K) fun t48 w =>
 IfX t48 (DoX Tryz.prog (mBuildS 88 1 #[(0, (.int .u8 92))]) w (pk K) fun t50 w =>
 DoX Tryz.prog (mB .append #[88, 88] 88 #[false, false] #[t4, t50]) w (pk K) fun t51 w =>
 J3 [t51] w) (J3 [t4] w)) (fun vs3 w => ∀ _ : Sg, S_foliantref04_String_1 (vs3.getD 0 undef) t19 w J2 K))) (fun vs2 w => ∀ _ : Sg, S_foliantref04_String_2 (vs2.getD 0 undef) t5 w N1 K)) (DoX Tryz.prog (mBuildS 88 1 #[(0, (.int .u8 41))]) w (pk K) fun t57 w =>
 DoX Tryz.prog (mB .append #[88, 88] 88 #[false, false] #[t4, t57]) w (pk K) fun t58 w =>
 DoX Tryz.prog (mConv 88 9 t58) w (pk K) fun t59 w =>
 K (.returned (.tuple #[t59, (.int .i64 0)])) w)
def S_foliantref04_String (t0 : Value) (w : World) (K : Ending → World → Prop) : Prop :=
 DoX Tryz.prog (mB .len #[9] 3 #[false] #[t0]) w (pk K) fun t8 w =>
 DoX Tryz.prog (mBin .gtr 3 t8 (.int .i64 32767)) w (pk K) fun t9 w =>
 IfX t9 (K (.returned (.tuple #[(.string ⟨#[]⟩), (.int .i64 5)])) w) (DoX Tryz.prog (mBuildS 88 1 #[(0, (.int .u8 40))]) w (pk K) fun t10 w =>
 LoopX [t10, (.int .i64 0)] w (fun vs1 w N1 => ∀ _ : Sg, S_foliantref04_String_0 t0 (vs1.getD 0 undef) (vs1.getD 1 undef) w N1 K))
/- foliantref04.Hex -/
/- foliantref04.Name -/
def S_foliantref04_Name_1 (t4 t5 : Value) (w : World) (N1 : List Value → World → Prop) (K : Ending → World → Prop) : Prop :=
 DoX Tryz.prog (mBin .add 3 t5 (.int .i64 1)) w (pk K) fun t15 w =>
 N1 [t4, t15] w
/- foliantref04.Join -/
def S_foliantref04_Join_1 (t3 t5 t9 : Value) (w : World) (N1 : List Value → World → Prop) (K : Ending → World → Prop) : Prop :=
 DoX Tryz.prog (mBin .add 9 t3 t5) w (pk K) fun t39 w =>
 DoX Tryz.prog (mBin .add 3 t9 (.int .i64 1)) w (pk K) fun t40 w =>
 N1 [t39, t40] w
def S_foliantref04_Join_0 (t3 t7 t8 t9 : Value) (w : World) (N1 : List Value → World → Prop) (K : Ending → World → Prop) : Prop :=
 DoX Tryz.prog (mBin .lss 3 t9 t8) w (pk K) fun t10 w =>
 IfX t10 (DoX Tryz.prog (mIA 39 t7 t9) w (pk K) fun t11 w =>
 DoX Tryz.prog (mLoad 9 t11) w (pk K) fun t12 w =>
 JoinX (fun J2 =>
 DoX Tryz.prog (mEq .neq 9 (.tmp 13) (.const (.string ⟨#[]⟩)) t12 (.string ⟨#[]⟩)) w (pk K) fun t14 w =>
 GDo t14 true (fun E => E t3 w) w fun t16 w =>
 GDo t14 true (fun E => DoX Tryz.prog (mEq .neq 9 (.tmp 16) (.const (.string ⟨#[]⟩)) t16 (.string ⟨#[]⟩)) w (pk K) E) w fun t17 w =>
 DoX Tryz.prog (mPick t14 t17 (.bool false)) w (pk K) fun t18 w =>
 GDo t18 true (fun E => E t12 w) w fun t20 w =>
 GDo t18 true (fun E => DoX Tryz.prog (mIx 9 t20 (.int .i64 0)) w (pk K) E) w fun t21 w =>
 GDo t18 true (fun E => CallX Tryz.prog 146 #[t21] w (pk K) E) w fun t22 w =>
 DoX Tryz.prog (mPick t18 t22 (.bool false)) w (pk K) fun t23 w =>
 IfX t23 (DoX Tryz.prog (mB .len #[9] 3 #[false] #[t3]) w (pk K) fun t26 w =>
 DoX Tryz.prog (mBin .sub 3 t26 (.int .i64 1)) w (pk K) fun t27 w =>
 DoX Tryz.prog (mIx 9 t3 t27) w (pk K) fun t28 w =>
 DoX Tryz.prog (mEq .eql 5 (.tmp 29) (.const (.int .u8 47)) t28 (.int .u8 47)) w (pk K) fun t30 w =>
 GDo t30 false (fun E => E t28 w) w fun t32 w =>
 GDo t30 false (fun E => CallX Tryz.prog 146 #[t32] w (pk K) E) w fun t33 w =>
 DoX Tryz.prog (mPick t30 (.bool true) t33) w (pk K) fun t34 w =>
 IfX t34 (DoX Tryz.prog (mBin .add 9 t3 (.string ⟨#[32]⟩)) w (pk K) fun t36 w =>
 J2 [t36] w) (J2 [t3] w)) (J2 [t3] w)) (fun vs2 w => ∀ _ : Sg, S_foliantref04_Join_1 (vs2.getD 0 undef) t12 t9 w N1 K)) (K (.returned t3) w)
def S_foliantref04_Join (t0 : Value) (w : World) (K : Ending → World → Prop) : Prop :=
 DoX Tryz.prog (mB .len #[39] 3 #[false] #[t0]) w (pk K) fun t8 w =>
 LoopX [(.string ⟨#[]⟩), (.int .i64 0)] w (fun vs1 w N1 => ∀ _ : Sg, S_foliantref04_Join_0 (vs1.getD 0 undef) t0 t8 (vs1.getD 1 undef) w N1 K)
/- foliantref04.Pad -/
def S_foliantref04_Pad_0 (t1 t5 : Value) (w : World) (N1 : List Value → World → Prop) (K : Ending → World → Prop) : Prop :=
 DoX Tryz.prog (mB .len #[9] 3 #[false] #[t5]) w (pk K) fun t23 w =>
 DoX Tryz.prog (mBin .lss 3 t23 t1) w (pk K) fun t25 w =>
 IfX t25 (DoX Tryz.prog (mBin .add 9 (.string ⟨#[48]⟩) t5) w (pk K) fun t27 w =>
 N1 [t27] w) (K (.returned t5) w)
def S_foliantref04_Pad (t0 t1 : Value) (w : World) (K : Ending → World → Prop) : Prop :=
 DoX Tryz.prog (mBin .lss 3 t0 (.int .i64 0)) w (pk K) fun t7 w =>
 GDo t7 false (fun E => E t1 w) w fun t9 w =>
 GDo t7 false (fun E => DoX Tryz.prog (mBin .lss 3 t9 (.int .i64 1)) w (pk K) E) w fun t10 w =>
 DoX Tryz.prog (mPick t7 (.bool true) t10) w (pk K) fun t11 w =>
 GDo t11 false (fun E => E t1 w) w fun t13 w =>
 GDo t11 false (fun E => DoX Tryz.prog (mBin .gtr 3 t13 (.int .i64 20)) w (pk K) E) w fun t14 w =>
 DoX Tryz.prog (mPick t11 (.bool true) t14) w (pk K) fun t15 w =>
 IfX t15 (K (.returned (.string ⟨#[]⟩)) w) (CallX Tryz.prog 88 #[t0] w (pk K) fun t17 w =>
 DoX Tryz.prog (mB .len #[9] 3 #[false] #[t17]) w (pk K) fun t19 w =>
 DoX Tryz.prog (mBin .gtr 3 t19 t1) w (pk K) fun t21 w =>
 IfX t21 (K (.returned (.string ⟨#[]⟩)) w) (LoopX [t17] w (fun vs1 w N1 => ∀ _ : Sg, S_foliantref04_Pad_0 t1 (vs1.getD 0 undef) w N1 K)))
/- foliantref04.digits -/
def S_foliantref04_digits (t0 : Value) (w : World) (K : Ending → World → Prop) : Prop :=
 DoX Tryz.prog (mBin .rem 2 t0 (.int .i64 10)) w (pk K) fun t5 w =>
 DoX Tryz.prog (mBin .rem 2 t0 (.int .i64 10)) w (pk K) fun t7 w =>
 DoX Tryz.prog (mBin .add 2 t7 (.int .i64 1)) w (pk K) fun t8 w =>
 DoX Tryz.prog (mSlice 9 (.string ⟨#[48, 49, 50, 51, 52, 53, 54, 55, 56, 57]⟩) (some t5) (some t8) none) w (pk K) fun t9 w =>
 DoX Tryz.prog (mBin .lss 2 t0 (.int .i64 10)) w (pk K) fun t11 w =>
 IfX t11 (K (.returned t9) w) (DoX Tryz.prog (mBin .quo 2 t0 (.int .i64 10)) w (pk K) fun t14 w =>
 CallX Tryz.prog 88 #[t14] w (pk K) fun t15 w =>
 DoX Tryz.prog (mBin .add 9 t15 t9) w (pk K) fun t17 w =>
 K (.returned t17) w)
theorem S_foliantref04_digits_eq (t0 : Value) (w : World) (K : Ending → World → Prop) : wpX Tryz.prog 18 [] [] none (bodyOf Tryz.f88) (topQ Tryz.prog [.tmp 2] K) (startX [t0]) [] w = S_foliantref04_digits t0 w K := by kernel_rfl
theorem S_foliantref04_digits_ok {t0 : Value} {w : World} {K : Ending → World → Prop} (h : S_foliantref04_digits t0 w K) : Calls Tryz.prog 88 #[t0] w K :=
  calls_of_wpX Tryz.func88 rfl rfl rfl rfl (Eq.mpr (S_foliantref04_digits_eq t0 w K) h)

/- foliantref01.Hex -/
def S_foliantref01_Hex_0 (t0 t3 t4 t5 : Value) (w : World) (N1 : List Value → World → Prop) (K : Ending → World → Prop) : Prop :=
 DoX Tryz.prog (mB .len #[9] 3 #[false] #[t0]) w (pk K) fun t8 w =>
 DoX Tryz.prog (mBin .lss 3 t5 t8) w (pk K) fun t9 w =>
 IfX t9 (QuietX w (fun C2 =>
 QDo Tryz.prog C2 (mIx 9 t0 t5) fun t16 =>
 QDo Tryz.prog C2 (mBin .quo 5 t16 (.int .u8 16)) fun t17 =>
 QDo Tryz.prog C2 (mIx 9 t3 t17) fun t18 =>
 QDo Tryz.prog C2 (mIx 9 t0 t5) fun t22 =>
 QDo Tryz.prog C2 (mBin .rem 5 t22 (.int .u8 16)) fun t23 =>
 QDo Tryz.prog C2 (mIx 9 t3 t23) fun t24 =>
 ∀ w, C2 w →
 DoX Tryz.prog (mBuildS 88 2 #[(0, t18), (1, t24)]) w (pm1 (pm1 (pm1 (pm1 (pm1 (pm1 (pm1 (pk K)))))))) fun t25 w =>
 DoX Tryz.prog (mB .append #[88, 88] 88 #[false, false] #[t4, t25]) w (pm1 (pm1 (pm1 (pm1 (pm1 (pm1 (pm1 (pk K)))))))) fun t26 w =>
 DoX Tryz.prog (mBin .add 3 t5 (.int .i64 1)) w (pk K) fun t11 w =>
 N1 [t26, t11] w)) (DoX Tryz.prog (mConv 88 9 t4) w (pk K) fun t28 w =>
 K (.returned t28) w)
def S_foliantref01_Hex (t0 : Value) (w : World) (K : Ending → World → Prop) : Prop :=
 LoopX [(.slice none 0 0), (.int .i64 0)] w (fun vs1 w N1 => ∀ _ : Sg, S_foliantref01_Hex_0 t0 (.string ⟨#[48, 49, 50, 51, 52, 53, 54, 55, 56, 57, 65, 66, 67, 68, 69, 70]⟩) (vs1.getD 0 undef) (vs1.getD 1 undef) w N1 K)
/- foliantref01.Delim -/
def S_foliantref01_Delim (t0 : Value) (w : World) (K : Ending → World → Prop) : Prop :=
 DoX Tryz.prog (mEq .eql 5 (.tmp 3) (.const (.int .u8 40)) t0 (.int .u8 40)) w (pk K) fun t4 w =>
 GDo t4 false (fun E => E t0 w) w fun t6 w =>
 GDo t4 false (fun E => DoX Tryz.prog (mEq .eql 5 (.tmp 6) (.const (.int .u8 41)) t6 (.int .u8 41)) w (pk K) E) w fun t7 w =>
 DoX Tryz.prog (mPick t4 (.bool true) t7) w (pk K) fun t8 w =>
 GDo t8 false (fun E => E t0 w) w fun t10 w =>
 GDo t8 false (fun E => DoX Tryz.prog (mEq .eql 5 (.tmp 10) (.const (.int .u8 60)) t10 (.int .u8 60)) w (pk K) E) w fun t11 w =>
 DoX Tryz.prog (mPick t8 (.bool true) t11) w (pk K) fun t12 w =>
 GDo t12 false (fun E => E t0 w) w fun t14 w =>
 GDo t12 false (fun E => DoX Tryz.prog (mEq .eql 5 (.tmp 14) (.const (.int .u8 62)) t14 (.int .u8 62)) w (pk K) E) w fun t15 w =>
 DoX Tryz.prog (mPick t12 (.bool true) t15) w (pk K) fun t16 w =>
 GDo t16 false (fun E => E t0 w) w fun t18 w =>
 GDo t16 false (fun E => DoX Tryz.prog (mEq .eql 5 (.tmp 18) (.const (.int .u8 91)) t18 (.int .u8 91)) w (pk K) E) w fun t19 w =>
 DoX Tryz.prog (mPick t16 (.bool true) t19) w (pk K) fun t20 w =>
 GDo t20 false (fun E => E t0 w) w fun t22 w =>
 GDo t20 false (fun E => DoX Tryz.prog (mEq .eql 5 (.tmp 22) (.const (.int .u8 93)) t22 (.int .u8 93)) w (pk K) E) w fun t23 w =>
 DoX Tryz.prog (mPick t20 (.bool true) t23) w (pk K) fun t24 w =>
 GDo t24 false (fun E => E t0 w) w fun t26 w =>
 GDo t24 false (fun E => DoX Tryz.prog (mEq .eql 5 (.tmp 26) (.const (.int .u8 123)) t26 (.int .u8 123)) w (pk K) E) w fun t27 w =>
 DoX Tryz.prog (mPick t24 (.bool true) t27) w (pk K) fun t28 w =>
 GDo t28 false (fun E => E t0 w) w fun t30 w =>
 GDo t28 false (fun E => DoX Tryz.prog (mEq .eql 5 (.tmp 30) (.const (.int .u8 125)) t30 (.int .u8 125)) w (pk K) E) w fun t31 w =>
 DoX Tryz.prog (mPick t28 (.bool true) t31) w (pk K) fun t32 w =>
 GDo t32 false (fun E => E t0 w) w fun t34 w =>
 GDo t32 false (fun E => DoX Tryz.prog (mEq .eql 5 (.tmp 34) (.const (.int .u8 47)) t34 (.int .u8 47)) w (pk K) E) w fun t35 w =>
 DoX Tryz.prog (mPick t32 (.bool true) t35) w (pk K) fun t36 w =>
 GDo t36 false (fun E => E t0 w) w fun t38 w =>
 GDo t36 false (fun E => DoX Tryz.prog (mEq .eql 5 (.tmp 38) (.const (.int .u8 37)) t38 (.int .u8 37)) w (pk K) E) w fun t39 w =>
 DoX Tryz.prog (mPick t36 (.bool true) t39) w (pk K) fun t40 w =>
 K (.returned t40) w
theorem S_foliantref01_Delim_eq (t0 : Value) (w : World) (K : Ending → World → Prop) : wpX Tryz.prog 41 [] [] none (bodyOf Tryz.f173) (topQ Tryz.prog [.tmp 2] K) (startX [t0]) [] w = S_foliantref01_Delim t0 w K := by kernel_rfl
theorem S_foliantref01_Delim_ok {t0 : Value} {w : World} {K : Ending → World → Prop} (h : S_foliantref01_Delim t0 w K) : Calls Tryz.prog 173 #[t0] w K :=
  calls_of_wpX Tryz.func173 rfl rfl rfl rfl (Eq.mpr (S_foliantref01_Delim_eq t0 w K) h)

/- foliantref01.Regular -/
def S_foliantref01_Regular (t0 : Value) (w : World) (K : Ending → World → Prop) : Prop :=
 CallX Tryz.prog 118 #[t0] w (pk K) fun t4 w =>
 DoX Tryz.prog (mUn .not t4) w (pk K) fun t5 w =>
 GDo t5 true (fun E => E t0 w) w fun t7 w =>
 GDo t5 true (fun E => CallX Tryz.prog 173 #[t7] w (pk K) E) w fun t8 w =>
 GDo t5 true (fun E => DoX Tryz.prog (mUn .not t8) w (pk K) E) w fun t9 w =>
 DoX Tryz.prog (mPick t5 t9 (.bool false)) w (pk K) fun t10 w =>
 K (.returned t10) w
theorem S_foliantref01_Regular_eq (t0 : Value) (w : World) (K : Ending → World → Prop) : wpX Tryz.prog 11 [] [] none (bodyOf Tryz.f146) (topQ Tryz.prog [.tmp 2] K) (startX [t0]) [] w = S_foliantref01_Regular t0 w K := by kernel_rfl
theorem S_foliantref01_Regular_ok {t0 : Value} {w : World} {K : Ending → World → Prop} (h : S_foliantref01_Regular t0 w K) : Calls Tryz.prog 146 #[t0] w K :=
  calls_of_wpX Tryz.func146 rfl rfl rfl rfl (Eq.mpr (S_foliantref01_Regular_eq t0 w K) h)

/- foliantref01.White -/
def S_foliantref01_White (t0 : Value) (w : World) (K : Ending → World → Prop) : Prop :=
 DoX Tryz.prog (mEq .eql 5 (.tmp 3) (.const (.int .u8 0)) t0 (.int .u8 0)) w (pk K) fun t4 w =>
 GDo t4 false (fun E => E t0 w) w fun t6 w =>
 GDo t4 false (fun E => DoX Tryz.prog (mEq .eql 5 (.tmp 6) (.const (.int .u8 9)) t6 (.int .u8 9)) w (pk K) E) w fun t7 w =>
 DoX Tryz.prog (mPick t4 (.bool true) t7) w (pk K) fun t8 w =>
 GDo t8 false (fun E => E t0 w) w fun t10 w =>
 GDo t8 false (fun E => DoX Tryz.prog (mEq .eql 5 (.tmp 10) (.const (.int .u8 10)) t10 (.int .u8 10)) w (pk K) E) w fun t11 w =>
 DoX Tryz.prog (mPick t8 (.bool true) t11) w (pk K) fun t12 w =>
 GDo t12 false (fun E => E t0 w) w fun t14 w =>
 GDo t12 false (fun E => DoX Tryz.prog (mEq .eql 5 (.tmp 14) (.const (.int .u8 12)) t14 (.int .u8 12)) w (pk K) E) w fun t15 w =>
 DoX Tryz.prog (mPick t12 (.bool true) t15) w (pk K) fun t16 w =>
 GDo t16 false (fun E => E t0 w) w fun t18 w =>
 GDo t16 false (fun E => DoX Tryz.prog (mEq .eql 5 (.tmp 18) (.const (.int .u8 13)) t18 (.int .u8 13)) w (pk K) E) w fun t19 w =>
 DoX Tryz.prog (mPick t16 (.bool true) t19) w (pk K) fun t20 w =>
 GDo t20 false (fun E => E t0 w) w fun t22 w =>
 GDo t20 false (fun E => DoX Tryz.prog (mEq .eql 5 (.tmp 22) (.const (.int .u8 32)) t22 (.int .u8 32)) w (pk K) E) w fun t23 w =>
 DoX Tryz.prog (mPick t20 (.bool true) t23) w (pk K) fun t24 w =>
 K (.returned t24) w
theorem S_foliantref01_White_eq (t0 : Value) (w : World) (K : Ending → World → Prop) : wpX Tryz.prog 25 [] [] none (bodyOf Tryz.f118) (topQ Tryz.prog [.tmp 2] K) (startX [t0]) [] w = S_foliantref01_White t0 w K := by kernel_rfl
theorem S_foliantref01_White_ok {t0 : Value} {w : World} {K : Ending → World → Prop} (h : S_foliantref01_White t0 w K) : Calls Tryz.prog 118 #[t0] w K :=
  calls_of_wpX Tryz.func118 rfl rfl rfl rfl (Eq.mpr (S_foliantref01_White_eq t0 w K) h)

end Go.Proofs.YtgffladaenimmaaGreatDoor
/- Contracts: the references of layers 1 and 4 (White, Delim, Regular, Hex; Int, Real, String, Hex, Name, Join, Pad). -/
namespace Go.Proofs.YtgffladaenimmaaGreatDoor
set_option linter.unusedVariables false
set_option linter.unusedSimpArgs false
set_option linter.defProp false
open Eng Go.RowKit

theorem rwhite_ret (c : UInt8) (w : World) : Ret Tryz.prog 118 #[.int .u8 c.toNat] w (fun v w' => v = .bool (Oc.white c) ∧ w = w') := by
  refine ret_of fun K hK => S_foliantref01_White_ok ?_
  unfold S_foliantref01_White
  have e0 := u8d c 0 0 rfl
  have e1 := u8d c 9 9 rfl
  have e2 := u8d c 10 10 rfl
  have e3 := u8d c 12 12 rfl
  have e4 := u8d c 13 13 rfl
  have e5 := u8d c 32 32 rfl
  by_cases h0 : c = 0
  · simp only [rs, e0, decide_eq_true h0, g_un]
    exact hK _ _ ⟨by rw [h0]; rfl, rfl⟩
  simp only [rs, e0, decide_eq_false h0, g_un]
  by_cases h1 : c = 9
  · simp only [rs, e1, decide_eq_true h1, g_un]
    exact hK _ _ ⟨by rw [h1]; rfl, rfl⟩
  simp only [rs, e1, decide_eq_false h1, g_un]
  by_cases h2 : c = 10
  · simp only [rs, e2, decide_eq_true h2, g_un]
    exact hK _ _ ⟨by rw [h2]; rfl, rfl⟩
  simp only [rs, e2, decide_eq_false h2, g_un]
  by_cases h3 : c = 12
  · simp only [rs, e3, decide_eq_true h3, g_un]
    exact hK _ _ ⟨by rw [h3]; rfl, rfl⟩
  simp only [rs, e3, decide_eq_false h3, g_un]
  by_cases h4 : c = 13
  · simp only [rs, e4, decide_eq_true h4, g_un]
    exact hK _ _ ⟨by rw [h4]; rfl, rfl⟩
  simp only [rs, e4, decide_eq_false h4, g_un]
  by_cases h5 : c = 32
  · simp only [rs, e5, decide_eq_true h5, g_un]
    exact hK _ _ ⟨by rw [h5]; rfl, rfl⟩
  simp only [rs, e5, decide_eq_false h5, g_un]
  exact hK _ _ ⟨by simp [Oc.white, Oc.whites, h0, h1, h2, h3, h4, h5], rfl⟩
theorem rdelim_ret (c : UInt8) (w : World) : Ret Tryz.prog 173 #[.int .u8 c.toNat] w (fun v w' => v = .bool (Oc.delim c) ∧ w = w') := by
  refine ret_of fun K hK => S_foliantref01_Delim_ok ?_
  unfold S_foliantref01_Delim
  have e0 := u8d c 40 40 rfl
  have e1 := u8d c 41 41 rfl
  have e2 := u8d c 60 60 rfl
  have e3 := u8d c 62 62 rfl
  have e4 := u8d c 91 91 rfl
  have e5 := u8d c 93 93 rfl
  have e6 := u8d c 123 123 rfl
  have e7 := u8d c 125 125 rfl
  have e8 := u8d c 47 47 rfl
  have e9 := u8d c 37 37 rfl
  by_cases h0 : c = 40
  · simp only [rs, e0, decide_eq_true h0, g_un]
    exact hK _ _ ⟨by rw [h0]; rfl, rfl⟩
  simp only [rs, e0, decide_eq_false h0, g_un]
  by_cases h1 : c = 41
  · simp only [rs, e1, decide_eq_true h1, g_un]
    exact hK _ _ ⟨by rw [h1]; rfl, rfl⟩
  simp only [rs, e1, decide_eq_false h1, g_un]
  by_cases h2 : c = 60
  · simp only [rs, e2, decide_eq_true h2, g_un]
    exact hK _ _ ⟨by rw [h2]; rfl, rfl⟩
  simp only [rs, e2, decide_eq_false h2, g_un]
  by_cases h3 : c = 62
  · simp only [rs, e3, decide_eq_true h3, g_un]
    exact hK _ _ ⟨by rw [h3]; rfl, rfl⟩
  simp only [rs, e3, decide_eq_false h3, g_un]
  by_cases h4 : c = 91
  · simp only [rs, e4, decide_eq_true h4, g_un]
    exact hK _ _ ⟨by rw [h4]; rfl, rfl⟩
  simp only [rs, e4, decide_eq_false h4, g_un]
  by_cases h5 : c = 93
  · simp only [rs, e5, decide_eq_true h5, g_un]
    exact hK _ _ ⟨by rw [h5]; rfl, rfl⟩
  simp only [rs, e5, decide_eq_false h5, g_un]
  by_cases h6 : c = 123
  · simp only [rs, e6, decide_eq_true h6, g_un]
    exact hK _ _ ⟨by rw [h6]; rfl, rfl⟩
  simp only [rs, e6, decide_eq_false h6, g_un]
  by_cases h7 : c = 125
  · simp only [rs, e7, decide_eq_true h7, g_un]
    exact hK _ _ ⟨by rw [h7]; rfl, rfl⟩
  simp only [rs, e7, decide_eq_false h7, g_un]
  by_cases h8 : c = 47
  · simp only [rs, e8, decide_eq_true h8, g_un]
    exact hK _ _ ⟨by rw [h8]; rfl, rfl⟩
  simp only [rs, e8, decide_eq_false h8, g_un]
  by_cases h9 : c = 37
  · simp only [rs, e9, decide_eq_true h9, g_un]
    exact hK _ _ ⟨by rw [h9]; rfl, rfl⟩
  simp only [rs, e9, decide_eq_false h9, g_un]
  exact hK _ _ ⟨by simp [Oc.delim, Oc.delims, h0, h1, h2, h3, h4, h5, h6, h7, h8, h9], rfl⟩
theorem rregular_ret (c : UInt8) (w : World) : Ret Tryz.prog 146 #[.int .u8 c.toNat] w (fun v w' => v = .bool (Oc.regular c) ∧ w = w') := by
  refine ret_of fun K hK => S_foliantref01_Regular_ok ?_
  unfold S_foliantref01_Regular
  refine c_eq (rwhite_ret c w) ?_
  cases hw : Oc.white c with
  | true => simp only [rs]; exact hK _ _ ⟨by simp [Oc.regular, hw], rfl⟩
  | false =>
    simp only [rs]
    refine c_eq (rdelim_ret c w) ?_
    simp only [rs]
    exact hK _ _ ⟨by simp [Oc.regular, hw], rfl⟩

abbrev BRow (v : Value) (l : List UInt8) : Ent := .row 5 1 v l.length (bytesV l)
/-- append(out, bytes..): the first piece is the row. -/
theorem o_appB {S : Nat → Prop} {w0 w : World} {L : List Ent} {v : Value} {l m : List UInt8} {parts : Array (Nat × Value)} {n : Nat} {cs : Array Bool} {PK PK2 : List PanicEntry → World → Prop} {K : Value → World → Prop}
    (hm : ∀ w, (mBuildS 88 n parts).run Tryz.prog w = .ok (.value (.slice (some ⟨w.heap.size, 0, none⟩) m.length m.length)) (w.alloc (.cells (bytesV m).toArray 5)))
    (ho : OwnS S w0 w (BRow v l :: L)) (hb : l.length + m.length ≤ 140737488355328) (k : ∀ v' w', OwnS S w0 w' (BRow v' (l ++ m) :: L) → K v' w') :
    DoX Tryz.prog (mBuildS 88 n parts) w PK fun t w => DoX Tryz.prog (mB .append #[88, 88] 88 cs #[v, t]) w PK2 K := by
  refine o_new (fun b => .slice (some ⟨b, 0, none⟩) m.length m.length) (bytesV m) 5 hm ho fun nb w4 h4 => ?_
  refine o_append 1 Tryz.underlying88 (show elB Tryz.prog 5 1 1 = true by kernel_rfl) (by decide) h4 rfl (h4.sl 0 rfl 1 m.length m.length (by rw [bytesV_length, Nat.mul_one])) (bytesV_one _) (by omega) (by omega) fun v' w5 h5 => ?_
  refine k v' w5 ?_
  have e : BRow v' (l ++ m) = .row 5 1 v' (l.length + m.length) (bytesV l ++ bytesV m) := by
    rw [BRow, bytesV_append, List.length_append]
  rw [e]
  exact h5.tail
/-- string(out). -/
theorem o_strB {S : Nat → Prop} {w0 w : World} {L : List Ent} {v : Value} {l : List UInt8} {PK : List PanicEntry → World → Prop} {K : Value → World → Prop} (i : Nat) (ho : OwnS S w0 w L) (hi : L[i]? = some (BRow v l)) :
    DoX Tryz.prog (mConv 88 9 v) w PK K = K (.string ⟨l.toArray⟩) w :=
  c_bytes (l := l) Tryz.underlying88 Tryz.underlying5 Tryz.underlying9 (ho.slRow i hi)
theorem dig_piece : ∀ k : Fin 10, (([48, 49, 50, 51, 52, 53, 54, 55, 56, 57] : List UInt8).drop k.val).take (k.val + 1 - k.val) = [UInt8.ofNat (48 + k.val)] := by decide
theorem decDigits_len (u : Nat) (h : u < 18446744073709551616) : (Lib.decDigits u).length ≤ 20 := by rw [Lib.decDigits_length]; exact Lib.nDigits_le20 u h
theorem rdigits_ret : ∀ (n : Nat) (w : World), n ≤ 9223372036854775807 → Ret Tryz.prog 88 #[.int .i64 n] w (fun v w' => v = .string ⟨(Lib.decDigits n).toArray⟩ ∧ w = w') := by
  intro n
  induction n using Nat.strongRecOn with
  | _ n ih =>
    intro w hn
    refine ret_of fun K hK => S_foliantref04_digits_ok ?_
    unfold S_foliantref04_digits
    have hr : ((n : Int).tmod 10) = ((n % 10 : Nat) : Int) := by rw [Int.tmod_eq_emod_of_nonneg (by omega)]; omega
    have hq : ((n : Int).tdiv 10) = ((n / 10 : Nat) : Int) := by rw [Int.tdiv_eq_ediv_of_nonneg (by omega)]; omega
    simp only [b_rem (show (10 : Int) ≠ 0 by omega), b_quo (show (10 : Int) ≠ 0 by omega), hr, hq, rs]
    rw [wrap64_id (n := ((n % 10 : Nat) : Int) + 1) (by omega) (by omega)]
    change DoX Tryz.prog (mSlice 9 (.string ⟨([48, 49, 50, 51, 52, 53, 54, 55, 56, 57] : List UInt8).toArray⟩) _ _ _) _ _ _
    rw [s_slice Tryz.underlying9 (by omega) (by omega) (by simp only [List.length_cons, List.length_nil]; omega)]
    have hp := dig_piece ⟨n % 10, by omega⟩
    simp only at hp
    rw [show (((n % 10 : Nat) : Int) + 1).toNat = n % 10 + 1 by omega, Int.toNat_natCast, hp]
    by_cases h10 : (n : Int) < 10
    · simp only [h10, decide_true, i_t]
      refine hK _ _ ⟨?_, rfl⟩
      rw [Lib.decDigits, dif_pos (by omega), show n % 10 = n by omega]
    · simp only [h10, decide_false, i_f]
      rw [wrap64_id (by omega) (by omega)]
      refine c_eq (ih (n / 10) (by omega) w (by omega)) ?_
      have hl := decDigits_len (n / 10) (by omega)
      rw [s_add (by simp; omega)]
      refine hK _ _ ⟨?_, rfl⟩
      rw [Lib.decDigits.eq_1 n, dif_neg (by omega)]
theorem rint_ret (n : Int) (w : World) : Ret Tryz.prog 48 #[.int .i64 n] w (fun v w' => v = .tuple #[.string ⟨(Pl.pInt n).1.toArray⟩, .int .i64 (Pl.pInt n).2] ∧ w = w') := by
  refine ret_of fun K hK => S_foliantref04_Int_ok ?_
  unfold S_foliantref04_Int
  by_cases h1 : n < -2147483647
  · simp only [rs, h1, decide_true, g_un]
    exact hK _ _ ⟨by rw [Pl.pInt, if_neg (by omega)], rfl⟩
  simp only [rs, h1, decide_false]
  by_cases h2 : 2147483647 < n
  · simp only [rs, h2, decide_true]
    exact hK _ _ ⟨by rw [Pl.pInt, if_neg (by omega)], rfl⟩
  simp only [rs, h2, decide_false]
  by_cases h3 : n < 0
  · simp only [rs, h3, decide_true]
    rw [wrap64_id (by omega) (by omega)]
    obtain ⟨m, hm⟩ : ∃ m : Nat, -n = m := ⟨(-n).toNat, by omega⟩
    rw [hm]
    refine c_eq (rdigits_ret m w (by omega)) ?_
    have hl := decDigits_len m (by omega)
    change DoX Tryz.prog (mBin .add 9 (.string ⟨([45] : List UInt8).toArray⟩) (.string ⟨(Lib.decDigits m).toArray⟩)) _ _ _
    rw [s_add (by simp; omega)]
    refine hK _ _ ⟨?_, rfl⟩
    rw [Pl.pInt, if_pos (by omega), Lib.itoa, if_pos h3, show n.natAbs = m by omega]
    rfl
  · simp only [rs, h3, decide_false]
    obtain ⟨m, rfl⟩ : ∃ m : Nat, n = m := ⟨n.toNat, by omega⟩
    refine c_eq (rdigits_ret m w (by omega)) ?_
    refine hK _ _ ⟨?_, rfl⟩
    rw [Pl.pInt, if_pos (by omega), Lib.itoa, if_neg h3, Int.toNat_natCast]
end Go.Proofs.YtgffladaenimmaaGreatDoor
/- Contracts: octet.Unhex, names of the program. -/
namespace Go.Proofs.YtgffladaenimmaaGreatDoor
set_option linter.unusedVariables false
set_option linter.unusedSimpArgs false
set_option linter.defProp false
open Eng Go.RowKit

theorem hexor_fin : ∀ n m : Fin 16, bOr .i64 (IntKind.wrap .i64 ((n.val : Int) * 2 ^ (min (4 : Int).toNat IntKind.i64.bits))) (m.val : Int) = ((16 * n.val + m.val : Nat) : Int) := by decide +kernel
theorem hexor {a b : Int} (ha : 0 ≤ a) (ha2 : a ≤ 15) (hb : 0 ≤ b) (hb2 : b ≤ 15) : bOr .i64 (IntKind.wrap .i64 (a * 2 ^ (min (4 : Int).toNat IntKind.i64.bits))) b = 16 * a + b := by
  have := hexor_fin ⟨a.toNat, by omega⟩ ⟨b.toNat, by omega⟩
  simp only at this
  rw [Int.toNat_of_nonneg ha, Int.toNat_of_nonneg hb] at this
  rw [this]; omega
theorem byte_nat {a b : Int} (ha : 0 ≤ a) (ha2 : a ≤ 15) (hb : 0 ≤ b) (hb2 : b ≤ 15) : ((Lx.byte a b).toNat : Int) = 16 * a + b := by
  rw [Lx.byte, UInt8.toNat_ofNat']; omega
theorem unhex_odd : ∀ (n : Nat) (l : List UInt8), l.length ≤ n → l.length % 2 = 1 → Lx.unhex l = none
  | _, [], _, h => by simp at h
  | _, [_], _, _ => rfl
  | 0, _ :: _ :: _, h, _ => by simp at h
  | n + 1, a :: b :: t, hl, h => by
    simp only [List.length_cons] at hl h
    rw [Lx.unhex, unhex_odd n t (by omega) (by omega)]
    simp
theorem unhex_step {s : List UInt8} {i : Nat} (h : i + 1 < s.length) : Lx.unhex (s.drop i) = if Lx.digit s[i] < 0 ∨ Lx.digit s[i + 1] < 0 then none else (Lx.unhex (s.drop (i + 2))).map (Lx.byte (Lx.digit s[i]) (Lx.digit s[i + 1]) :: ·) := by
  rw [Lx.drop_cons (show i < s.length by omega), Lx.drop_cons h, Lx.unhex]
theorem unhexE_none {s : List UInt8} (h : Lx.unhex s = none) : Lx.unhexE s = ([], 3) := by rw [Lx.unhexE, h]
theorem unhexE_some {s x : List UInt8} (h : Lx.unhex s = some x) : Lx.unhexE s = (x, 0) := by rw [Lx.unhexE, h]
theorem m_b1 {n : Int} (w : World) (c : UInt8) (h : (c.toNat : Int) = n) : (mBuildS 88 1 #[(0, .int .u8 n)]).run Tryz.prog w = .ok (.value (.slice (some ⟨w.heap.size, 0, none⟩) [c].length [c].length)) (w.alloc (.cells (bytesV [c]).toArray 5)) := by
  subst h; kernel_rfl
/-- append(out, c): one byte. -/
theorem o_app1 {S : Nat → Prop} {w0 w : World} {L : List Ent} {v : Value} {l : List UInt8} {n : Int} {cs : Array Bool} {PK PK2 : List PanicEntry → World → Prop} {K : Value → World → Prop} (c : UInt8) (h : (c.toNat : Int) = n)
    (ho : OwnS S w0 w (BRow v l :: L)) (hb : l.length + 1 ≤ 140737488355328) (k : ∀ v' w', OwnS S w0 w' (BRow v' (l ++ [c]) :: L) → K v' w') :
    DoX Tryz.prog (mBuildS 88 1 #[(0, .int .u8 n)]) w PK fun t w => DoX Tryz.prog (mB .append #[88, 88] 88 cs #[v, t]) w PK2 K :=
  o_appB (m := [c]) (fun w => m_b1 w c h) ho (by simpa using hb) k
theorem c_8 {w : World} {PK : List PanicEntry → World → Prop} {K : Value → World → Prop} {n : Int} : DoX Tryz.prog (mConv 3 5 (.int .i64 n)) w PK K = K (.int .u8 (IntKind.wrap .u8 n)) w :=
  c_int (show (Tryz.prog.underlying 3).isSome = true by kernel_rfl) Tryz.underlying5
theorem c_64 {w : World} {PK : List PanicEntry → World → Prop} {K : Value → World → Prop} {n : Int} (h0 : 0 ≤ n) (h1 : n ≤ 255) : DoX Tryz.prog (mConv 5 3 (.int .u8 n)) w PK K = K (.int .i64 n) w := by
  rw [c_int (show (Tryz.prog.underlying 5).isSome = true by kernel_rfl) Tryz.underlying3, wrap64_id (by omega) (by omega)]
 attribute [local congr] g_congr in
theorem unhex_ret (s : List UInt8) (w : World) (hs : s.length ≤ 1099511627776) : Ret Tryz.prog 112 #[.string ⟨s.toArray⟩] w (fun v w' => v = .tuple #[.string ⟨(Lx.unhexE s).1.toArray⟩, .int .i64 (Lx.unhexE s).2] ∧ Below w.heap.size w w') := by
  refine ret_of fun K hK => S_octet_Unhex_ok ?_
  unfold S_octet_Unhex
  rw [s_len Tryz.underlying9, b_rem (by omega)]
  have hr : ((s.length : Int).tmod 2) = ((s.length % 2 : Nat) : Int) := by rw [Int.tmod_eq_emod_of_nonneg (by omega)]; omega
  rw [hr]
  by_cases hodd : s.length % 2 = 1
  · rw [hodd]
    simp only [rs]
    have hu : ¬ ((1 : Nat) : Int) = 0 := by omega
    simp only [hu, decide_true, decide_not, decide_false, Bool.not_false, rs]
    exact hK _ _ ⟨by rw [unhexE_none (unhex_odd _ s (Nat.le_refl _) hodd)], (Own.start w).done⟩
  have heven : s.length % 2 = 0 := by omega
  have hq : ((s.length : Int).tdiv 2) = ((s.length / 2 : Nat) : Int) := by rw [Int.tdiv_eq_ediv_of_nonneg (by omega)]; omega
  rw [heven]
  simp only [rs, ne_eq, Int.natCast_zero, not_true, decide_false]
  rw [s_len Tryz.underlying9, b_quo (by omega), hq, wrap64_id (by omega) (by omega)]
  refine o_make (c := s.length / 2) rfl Tryz.underlying88 (show elB Tryz.prog 5 1 1 = true by kernel_rfl) (by omega) (by omega) (Own.start w) fun v w1 h1 => ?_
  refine loop (fun vs w' => ∃ (i : Nat) (v : Value) (acc : List UInt8), vs = [v, .int .i64 i] ∧ i ≤ s.length ∧ i % 2 = 0 ∧ acc.length ≤ i ∧ Lx.unhex s = (Lx.unhex (s.drop i)).map (acc ++ ·) ∧ Own w w' [BRow v acc])
    (fun vs _ => s.length - n1 vs) ⟨0, v, [], rfl, by omega, rfl, by simp, by simp, by simpa [BRow, bytesV] using h1⟩ ?_
  rintro vs w2 ⟨i, v, acc, rfl, hi, hi0, ha, he, ho⟩ _
  simp only [S_octet_Unhex_0, gd, s_len Tryz.underlying9]
  rw [b_lss]
  by_cases hlt : (i : Int) < (s.length : Int)
  · have hi2 : i + 1 < s.length := by omega
    have hi3 : i < s.length := by omega
    simp only [hlt, decide_true, i_t]
    have b1 := Lx.digit_bd s[i]
    have b2 := Lx.digit_bd s[i + 1]
    have hw1 : IntKind.wrap .i64 ((i : Int) + 1) = ((i + 1 : Nat) : Int) := by rw [wrap64_id (by omega) (by omega)]; omega
    have hc1 : s[(i : Int).toNat]? = some s[i] := by simp [hi3]
    have hc2 : s[((i + 1 : Nat) : Int).toNat]? = some s[i + 1] := by rw [Int.toNat_natCast]; simp [hi2]
    refine quiet (q_do _ (fun w => run_s_ix (c := s[i]) Tryz.underlying9 (Int.natCast_nonneg i) hc1) ?_)
    refine q_call (.int .i64 (Lx.digit s[i])) (fun w hb => ret_same (digit_ret s[i] w) hb) ?_
    refine q_do (.int .i64 ((i + 1 : Nat) : Int)) (fun w => by rw [r_add, hw1]) ?_
    refine q_do _ (fun w => run_s_ix (c := s[i + 1]) Tryz.underlying9 (Int.natCast_nonneg _) hc2) ?_
    refine q_call (.int .i64 (Lx.digit s[i + 1])) (fun w hb => ret_same (digit_ret s[i + 1] w) hb) ?_
    intro w3 hb3
    have ho := ho.grow hb3
    rw [unhex_step hi2] at he
    simp +contextual only [rs, gs]
    by_cases hbad : Lx.digit s[i] < 0 ∨ Lx.digit s[i + 1] < 0
    · have hb : (decide (Lx.digit s[i] < 0) || decide (Lx.digit s[i + 1] < 0)) = true := by simpa using hbad
      simp only [hb, i_t]
      rw [if_pos hbad] at he
      exact hK _ _ ⟨by rw [unhexE_none he], ho.done⟩
    have hb : (decide (Lx.digit s[i] < 0) || decide (Lx.digit s[i + 1] < 0)) = false := by simpa using hbad
    simp only [hb, i_f]
    rw [if_neg hbad] at he
    rw [b_shl (by omega), b_or, hexor (by omega) (by omega) (by omega) (by omega), c_8, wrap8_id (by omega) (by omega)]
    refine o_app1 (Lx.byte (Lx.digit s[i]) (Lx.digit s[i + 1])) (byte_nat (by omega) (by omega) (by omega) (by omega)) ho (by omega) fun v' w4 ho => ?_
    rw [wrap64_id (by omega) (by omega)]
    refine nextX ⟨i + 2, v', _, rfl, by omega, by omega, by simp; omega, ?_, ho⟩ (by simp [n1, intOf]; omega)
    rw [he, Option.map_map]
    congr 1
    funext x; simp
  · have hi2 : i = s.length := by omega
    subst hi2
    simp only [hlt, decide_false, i_f]
    rw [o_strB 0 ho rfl]
    rw [List.drop_length, Lx.unhex, Option.map_some, List.append_nil] at he
    exact hK _ _ ⟨by rw [unhexE_some he], ho.done⟩
end Go.Proofs.YtgffladaenimmaaGreatDoor
/- Contracts: names and escapes of the program. -/
namespace Go.Proofs.YtgffladaenimmaaGreatDoor
set_option linter.unusedVariables false
set_option linter.unusedSimpArgs false
set_option linter.defProp false
open Eng Go.RowKit

theorem cut_nil (s : List UInt8) (i : Nat) : Lx.cut s i i = [] := by simp [Lx.cut]
theorem cut_cons {s : List UInt8} {i j : Nat} (h : i < j) (hj : j ≤ s.length) : Lx.cut s i j = s[i] :: Lx.cut s (i + 1) j := by
  unfold Lx.cut
  rw [Lx.drop_cons (show i < s.length by omega), show j - i = (j - (i + 1)) + 1 by omega, List.take_succ_cons]
theorem cut_length {s : List UInt8} {i j : Nat} (hj : j ≤ s.length) : (Lx.cut s i j).length = j - i := by
  unfold Lx.cut; simp; omega
theorem cut_one {s : List UInt8} {i : Nat} (h : i < s.length) : Lx.cut s i (i + 1) = [s[i]] := by rw [cut_cons (by omega) (by omega), cut_nil]
theorem cut_two {s : List UInt8} {i : Nat} (h : i + 1 < s.length) : Lx.cut s i (i + 2) = [s[i], s[i + 1]] := by rw [cut_cons (by omega) (by omega), cut_one h]
theorem s_cut {s : List UInt8} {i j : Nat} {x y : Int} {w : World} {PK : List PanicEntry → World → Prop} {K : Value → World → Prop} (hx : x = (i : Int)) (hy : y = (j : Int)) (h : i ≤ j) (hj : j ≤ s.length) :
    DoX Tryz.prog (mSlice 9 (.string ⟨s.toArray⟩) (some (.int .i64 x)) (some (.int .i64 y)) none) w PK K = K (.string ⟨(Lx.cut s i j).toArray⟩) w := by
  subst hx; subst hy
  rw [s_slice Tryz.underlying9 (by omega) (by omega) (by omega)]
  rfl
theorem s_at {s : List UInt8} {i : Nat} {w : World} {PK : List PanicEntry → World → Prop} {K : Value → World → Prop} (h : i < s.length) :
    DoX Tryz.prog (mIx 9 (.string ⟨s.toArray⟩) (.int .i64 (i : Int))) w PK K = K (.int .u8 (s[i].toNat : Int)) w :=
  s_ix (c := s[i]) Tryz.underlying9 (Int.natCast_nonneg i) (by simp [h])
theorem unhexE_two (a b : UInt8) : Lx.unhexE [a, b] = if Lx.digit a < 0 ∨ Lx.digit b < 0 then ([], 3) else ([Lx.byte (Lx.digit a) (Lx.digit b)], 0) := by
  by_cases h : Lx.digit a < 0 ∨ Lx.digit b < 0
  · rw [if_pos h]; exact unhexE_none (by rw [Lx.unhex, if_pos h])
  · rw [if_neg h]; exact unhexE_some (by rw [Lx.unhex, if_neg h, Lx.unhex]; rfl)
theorem name_ret (s : List UInt8) (a : Nat) (w : World) (hs : s.length ≤ 1099511627776) (ha : a < s.length) : Ret Tryz.prog 82 #[cutV s a] w (fun v w' => v = tokR (Lx.name s a) ∧ Below w.heap.size w w') := by
  refine ret_of fun K hK => S_lex_cutter_name_ok ?_
  unfold S_lex_cutter_name
  refine o_cut s a (Own.start w) fun b1 w1 ho => ?_
  refine o_tok ho fun b w2 ho => ?_
  have hw1 : IntKind.wrap .i64 ((a : Int) + 1) = ((a + 1 : Nat) : Int) := by rw [wrap64_id (by omega) (by omega)]; omega
  simp only [cut_v ho 1 rfl, fa_c1, cut_a ho 1 rfl, rs, hw1]
  have hto := Lx.run_le s (show a + 1 ≤ s.length by omega)
  have hto2 : a + 1 ≤ Lx.run s (a + 1) := by unfold Lx.run; omega
  refine c_below ho (run_ret s a (a + 1) w2 hs (by omega)) ?_
  rintro _ w3 rfl ho
  simp only [fa_c1, cut_a ho 1 rfl, rs, hw1]
  generalize hT : Lx.run s (a + 1) = tt at *
  refine loop (fun vs w' => ∃ (i : Nat) (v d : Value) (acc : List UInt8), vs = [d, v, .int .i64 i] ∧ a + 1 ≤ i ∧ i ≤ tt ∧ acc.length ≤ i ∧ Lx.nameF (Lx.cut s (a + 1) tt) = (Lx.nameF (Lx.cut s i tt)).map (acc ++ ·) ∧ Own w w' [BRow v acc, tokE b Lx.none_, cutE b1 s a])
    (fun vs _ => tt - n2 vs) ⟨a + 1, _, _, [], rfl, by omega, hto2, by simp, by simp, ho.nilRow _ 1⟩ ?_
  rintro vs w4 ⟨i, v, d, acc, rfl, hi1, hi2, hacc, he, ho⟩ _
  simp only [S_lex_cutter_name_0, gd]
  rw [b_lss]
  by_cases hlt : (i : Int) < (tt : Int)
  · have hi3 : i < tt := by omega
    have hi4 : i < s.length := by omega
    simp only [hlt, decide_true, i_t, fa_c0, cut_s ho 2 rfl, s_at hi4]
    rw [cut_cons hi3 hto] at he
    have e1 := u8d s[i] 35 35 rfl
    refine join fun J hJ => ?_
    have fin : ∀ (j : Nat) (c : UInt8) (n : Int) (d : Value) (w5 : World), (c.toNat : Int) = n → i ≤ j → j < tt → Lx.nameF (Lx.cut s (a + 1) tt) = (Lx.nameF (Lx.cut s (j + 1) tt)).map (acc ++ c :: ·) → Own w w5 [BRow v acc, tokE b Lx.none_, cutE b1 s a] → J [d, .int .i64 j, .int .u8 n] w5 := by
      intro j c n d w5 hc hij hjt he ho
      refine hJ _ _ fun _ => ?_
      simp only [S_lex_cutter_name_1, gd]
      refine o_app1 c hc ho (by omega) fun v' w6 ho => ?_
      rw [b_add, wrap64_id (by omega) (by omega)]
      refine nextX ⟨j + 1, v', _, acc ++ [c], rfl, by omega, by omega, by simp; omega, ?_, ho⟩ (by simp [n2, intOf]; omega)
      rw [he]
      congr 1
      funext x; simp
    by_cases h35 : s[i] = 35
    · simp only [rs, e1, decide_eq_true h35]
      rw [wrap64_id (by omega) (by omega)]
      by_cases hend : (tt : Int) ≤ (i : Int) + 2
      · simp only [hend, decide_true, i_t]
        refine tok_tail 1 ho rfl (refused_ret 3 _) fun w' hb => hK _ _ ⟨?_, hb⟩
        have hn : Lx.nameF (s[i] :: Lx.cut s (i + 1) tt) = none := by
          have hl := cut_length (s := s) (i := i + 1) hto
          cases hc : Lx.cut s (i + 1) tt with
          | nil => simp [Lx.nameF, h35]
          | cons x t =>
            cases t with
            | nil => simp [Lx.nameF, h35]
            | cons y t => rw [hc] at hl; simp at hl; omega
        rw [hn] at he
        simp only [Lx.name, hT, he, Option.map_none]
      · simp only [hend, decide_false, i_f, rs, fa_c0, cut_s ho 2 rfl]
        rw [wrap64_id (n := (i : Int) + 1) (by omega) (by omega), wrap64_id (n := (i : Int) + 3) (by omega) (by omega), s_cut (i := i + 1) (j := i + 3) (by simp) (by simp) (by omega) (by omega)]
        have hi5 : i + 1 < s.length := by omega
        have hi6 : i + 2 < s.length := by omega
        rw [show Lx.cut s (i + 1) (i + 3) = [s[i + 1], s[i + 2]] from cut_two (i := i + 1) (by omega)]
        have hlist : s[i] :: Lx.cut s (i + 1) tt = s[i] :: s[i + 1] :: s[i + 2] :: Lx.cut s (i + 3) tt := by
          rw [cut_cons (show i + 1 < tt by omega) hto, cut_cons (show i + 1 + 1 < tt by omega) hto]
        rw [hlist, Lx.nameF, if_pos h35] at he
        have b1 := Lx.digit_bd s[i + 1]
        have b2 := Lx.digit_bd s[i + 2]
        refine c_below ho (unhex_ret [s[i + 1], s[i + 2]] w4 (by simp)) ?_
        rintro _ w5 rfl ho
        have bad : (Lx.digit s[i + 1] < 0 ∨ Lx.digit s[i + 2] < 0 ∨ 16 * Lx.digit s[i + 1] + Lx.digit s[i + 2] = 0) → Lx.name s a = Lx.refused 3 := by
          intro h
          rw [if_pos h] at he
          simp only [Lx.name, hT, he, Option.map_none]
        rw [x_0, x_1, unhexE_two]
        by_cases hbad : Lx.digit s[i + 1] < 0 ∨ Lx.digit s[i + 2] < 0
        · rw [if_pos hbad]
          simp only [rs, g_un, ne_eq, show ¬ ((3 : Int) = 0) by decide, not_false_eq_true, decide_true]
          refine tok_tail 1 ho rfl (refused_ret 3 _) fun w' hb => hK _ _ ⟨?_, hb⟩
          rw [bad (by rcases hbad with h | h <;> simp [h])]
        · rw [if_neg hbad]
          have hb0 := byte_nat (a := Lx.digit s[i + 1]) (b := Lx.digit s[i + 2]) (by omega) (by omega) (by omega) (by omega)
          simp only [rs, g_un, ne_eq, not_true, decide_false]
          by_cases hz : 16 * Lx.digit s[i + 1] + Lx.digit s[i + 2] = 0
          · have hbz : Lx.byte (Lx.digit s[i + 1]) (Lx.digit s[i + 2]) = 0 := UInt8.toNat_inj.1 (by have : ((0 : UInt8).toNat : Int) = 0 := rfl; omega)
            rw [hbz]
            simp only [rs, decide_true]
            refine tok_tail 1 ho rfl (refused_ret 3 _) fun w' hb => hK _ _ ⟨?_, hb⟩
            rw [bad (.inr (.inr hz))]
          · have hbz : ¬ ([Lx.byte (Lx.digit s[i + 1]) (Lx.digit s[i + 2])] = [(0 : UInt8)]) := by
              intro h
              injection h with h _
              rw [h] at hb0
              exact hz (by rw [← hb0]; rfl)
            rw [if_neg (by omega)] at he
            simp only [rs, hbz, decide_false]
            rw [s_ix (c := Lx.byte (Lx.digit s[i + 1]) (Lx.digit s[i + 2])) Tryz.underlying9 (by omega) rfl]
            refine fin (i + 2) _ _ _ _ rfl (by omega) (by omega) ?_ ho
            rw [he, Option.map_map]
            rfl
    · simp only [rs, e1, decide_eq_false h35]
      refine fin i s[i] _ _ _ rfl (by omega) hi3 ?_ ho
      rw [he, Lx.nameF_ne h35, Option.map_map]
      rfl
  · have hi3 : i = tt := by omega
    subst hi3
    simp only [hlt, decide_false, i_f, cut_v ho 2 rfl, o_strB 0 ho rfl]
    rw [cut_nil, Lx.nameF, Option.map_some, List.append_nil] at he
    refine tok_tail 1 ho rfl (told_ret s a 4 i acc 127 _) fun w' hb => hK _ _ ⟨?_, hb⟩
    simp only [Lx.name, hT, he]
end Go.Proofs.YtgffladaenimmaaGreatDoor
/- Contracts: escapes and literal strings of the program. -/
namespace Go.Proofs.YtgffladaenimmaaGreatDoor
set_option linter.unusedVariables false
set_option linter.unusedSimpArgs false
set_option linter.defProp false
open Eng Go.RowKit

theorem wrap8_mod (n : Int) : IntKind.wrap .u8 n = n % 256 := by
  simp [IntKind.wrap, IntKind.signed, IntKind.bits]
theorem escL_ix (c : UInt8) : match Lx.escL c with
    | some b => ∃ k : Nat, Lib.indexByte [110, 114, 116, 98, 102] c = (k : Int) ∧ k < 5 ∧ Lx.cut [10, 13, 9, 8, 12] k (k + 1) = [b]
    | none => Lib.indexByte [110, 114, 116, 98, 102] c = -1 := by
  by_cases h1 : c = 110
  · subst h1; exact ⟨0, by decide, by decide, by decide⟩
  by_cases h2 : c = 114
  · subst h2; exact ⟨1, by decide, by decide, by decide⟩
  by_cases h3 : c = 116
  · subst h3; exact ⟨2, by decide, by decide, by decide⟩
  by_cases h4 : c = 98
  · subst h4; exact ⟨3, by decide, by decide, by decide⟩
  by_cases h5 : c = 102
  · subst h5; exact ⟨4, by decide, by decide, by decide⟩
  have e : Lx.escL c = none := by simp [Lx.escL, h1, h2, h3, h4, h5]
  rw [e]
  have g : ∀ x : UInt8, c ≠ x → (x == c) = false := fun x hx => by simpa using fun h : x = c => hx h.symm
  simp [Lib.indexByte, g _ h1, g _ h2, g _ h3, g _ h4, g _ h5]
theorem o_str1 {S : Nat → Prop} {w0 w : World} {L : List Ent} {n : Int} {PK PK2 : List PanicEntry → World → Prop} {K : Value → World → Prop} (c : UInt8) (h : (c.toNat : Int) = n) (ho : OwnS S w0 w L)
    (k : ∀ w', OwnS S w0 w' L → K (.string ⟨[c].toArray⟩) w') :
    DoX Tryz.prog (mBuildS 88 1 #[(0, .int .u8 n)]) w PK fun t w => DoX Tryz.prog (mConv 88 9 t) w PK2 K := by
  refine o_new (fun b => .slice (some ⟨b, 0, none⟩) [c].length [c].length) (bytesV [c]) 5 (fun w => m_b1 w c h) ho fun b w' ho' => ?_
  rw [c_bytes (l := [c]) Tryz.underlying88 Tryz.underlying5 Tryz.underlying9 (ho'.sl 0 rfl 1 [c].length [c].length rfl)]
  exact k _ ho'.tail
theorem escaped_ret (s : List UInt8) (a : Int) (i : Nat) (w : World) (hs : s.length ≤ 1099511627776) (h : i < s.length) : Ret Tryz.prog 114 #[cutV s a, .int .i64 i] w (fun v w' => v = .tuple #[.string ⟨(Lx.escF (s.drop i)).1.toArray⟩, .int .i64 ((i + (Lx.escF (s.drop i)).2 : Nat) : Int)] ∧ Below w.heap.size w w') := by
  refine ret_of fun K hK => S_lex_cutter_escaped_ok ?_
  unfold S_lex_cutter_escaped
  refine o_cut s a (Own.start w) fun b1 w1 ho => ?_
  simp only [fa_c0, cut_s ho 0 rfl, s_at h]
  refine c_eq (indexByte_ret [110, 114, 116, 98, 102] s[i] w1) ?_
  have hd := Lx.drop_cons h
  have hx := escL_ix s[i]
  cases hl : Lx.escL s[i] with
  | some b =>
    rw [hl] at hx
    obtain ⟨k, hk, hk5, hc⟩ := hx
    have hn : (0 : Int) ≤ (k : Int) := by omega
    simp only [hk, rs, hn, decide_true]
    rw [wrap64_id (n := (k : Int) + 1) (by omega) (by omega), wrap64_id (n := (i : Int) + 1) (by omega) (by omega)]
    rw [show (⟨#[10, 13, 9, 8, 12]⟩ : ByteArray) = ⟨([10, 13, 9, 8, 12] : List UInt8).toArray⟩ from rfl, s_cut (i := k) (j := k + 1) rfl (by simp) (by omega) (by simp; omega), hc]
    exact hK _ _ ⟨by rw [hd, Lx.escF, hl]; simp, ho.done⟩
  | none =>
    rw [hl] at hx
    simp only [hx, rs, show ¬ ((0 : Int) ≤ -1) by decide, decide_false, cut_v ho 0 rfl]
    refine c_below ho (end_ret s a i w1 hs h) ?_
    rintro _ w2 rfl ho
    rw [x_0, x_1]
    cases he : Lx.eol s[i] with
    | true =>
      simp only [if_true, rs]
      refine hK _ _ ⟨?_, ho.done⟩
      rw [hd, Lx.escF, hl]
      simp only [he, if_true, Lx.line, hd]
    | false =>
      simp only [Bool.false_eq_true, if_false, i_f]
      have hE : Lx.escF (s.drop i) = if 0 < (Lx.octF 3 0 (s.drop i)).2 then ([UInt8.ofNat (Lx.octF 3 0 (s.drop i)).1], (Lx.octF 3 0 (s.drop i)).2) else ([s[i]], 1) := by
        rw [hd, Lx.escF, hl]
        simp only [he, Bool.false_eq_true, if_false]
      refine loop (fun vs w' => ∃ (j n : Nat), vs = [.int .i64 n, .int .i64 j] ∧ i ≤ j ∧ j ≤ i + 3 ∧ j ≤ s.length ∧ n < 8 ^ (j - i) ∧ Lx.octF 3 0 (s.drop i) = ((Lx.octF (3 - (j - i)) n (s.drop j)).1, (Lx.octF (3 - (j - i)) n (s.drop j)).2 + (j - i)) ∧ Own w w' [cutE b1 s a])
        (fun vs _ => i + 3 - n1 vs) ⟨i, 0, rfl, by omega, by omega, by omega, by simp, by simp, ho⟩ ?_
      rintro vs w3 ⟨j, n, rfl, hj1, hj2, hj3, hn, ho8, ho⟩ _
      simp only [S_lex_cutter_escaped_0, gd, fa_c0, cut_s ho 0 rfl, s_len Tryz.underlying9]
      have hn2 : n < 512 := Nat.lt_of_lt_of_le hn (Nat.pow_le_pow_right (by decide) (by omega : j - i ≤ 3))
      have stop : Lx.octF (3 - (j - i)) n (s.drop j) = (n, 0) → IfX (.bool (decide ((i : Int) < (j : Int)))) (DoX Tryz.prog (mConv 3 5 (.int .i64 n)) w3 (pk K) fun t73 w =>
          DoX Tryz.prog (mBuildS 88 1 #[(0, t73)]) w (pk K) fun t74 w =>
          DoX Tryz.prog (mConv 88 9 t74) w (pk K) fun t75 w =>
          K (.returned (.tuple #[t75, .int .i64 j])) w) (DoX Tryz.prog (mSlice 9 (.string ⟨s.toArray⟩) (some (.int .i64 i)) (some (.int .i64 (IntKind.wrap .i64 ((i : Int) + 1)))) none) w3 (pk K) fun t82 w =>
          K (.returned (.tuple #[t82, .int .i64 (IntKind.wrap .i64 ((i : Int) + 1))])) w) := by
        intro h0
        rw [h0] at ho8
        by_cases hij : (i : Int) < (j : Int)
        · simp only [hij, decide_true, i_t]
          rw [c_8, wrap8_mod]
          refine o_str1 (UInt8.ofNat n) (by rw [UInt8.toNat_ofNat']; omega) ho fun w' ho => ?_
          refine hK _ _ ⟨?_, ho.done⟩
          rw [hE, ho8, if_pos (by simp; omega)]
          simp only
          rw [show i + (0 + (j - i)) = j by omega]
        · simp only [hij, decide_false, i_f]
          rw [wrap64_id (by omega) (by omega), s_cut (i := i) (j := i + 1) rfl (by simp) (by omega) (by omega), cut_one h]
          refine hK _ _ ⟨?_, ho.done⟩
          rw [hE, ho8, if_neg (by simp; omega)]
          simp
      by_cases hlt : (j : Int) < (s.length : Int)
      · have hj4 : j < s.length := by omega
        have hdj := Lx.drop_cons hj4
        by_cases hj5 : (j : Int) < (i : Int) + 3
        · obtain ⟨m, hm⟩ : ∃ m, 3 - (j - i) = m + 1 := ⟨3 - (j - i) - 1, by omega⟩
          have hw3 : IntKind.wrap .i64 ((i : Int) + 3) = (i : Int) + 3 := wrap64_id (by omega) (by omega)
          rw [hm, hdj, Lx.octF] at ho8
          by_cases h48 : (48 : Int) ≤ (s[j].toNat : Int)
          · by_cases h55 : (s[j].toNat : Int) ≤ 55
            · have hoct : Lx.oct s[j] = true := by simp [Lx.oct]; omega
              simp only [hlt, decide_true, rs, hw3, hj5, fa_c0, cut_s ho 0 rfl, s_at hj4, h48, h55]
              rw [wrap8_id (by omega) (by omega), c_64 (by omega) (by omega)]
              simp only [rs]
              rw [wrap64_id (n := 8 * (n : Int)) (by omega) (by omega), wrap64_id (by omega) (by omega), wrap64_id (by omega) (by omega)]
              rw [if_pos hoct] at ho8
              refine nextX ⟨j + 1, 8 * n + (s[j].toNat - 48), by simp; omega, by omega, by omega, by omega, ?_, ?_, ho⟩ (by simp [n1, intOf]; omega)
              · rw [show j + 1 - i = (j - i) + 1 by omega, Nat.pow_succ]; omega
              · rw [ho8, show 3 - (j + 1 - i) = m by omega]
                refine Prod.ext rfl ?_
                simp only; omega
            · simp only [hlt, decide_true, rs, hw3, hj5, fa_c0, cut_s ho 0 rfl, s_at hj4, h48, h55, decide_false, g_un]
              refine stop ?_
              rw [hm, hdj, Lx.octF, if_neg]
              simp [Lx.oct]; omega
          · simp only [hlt, decide_true, rs, hw3, hj5, fa_c0, cut_s ho 0 rfl, s_at hj4, h48, decide_false, g_un]
            refine stop ?_
            rw [hm, hdj, Lx.octF, if_neg]
            simp [Lx.oct]; omega
        · have hw3 : IntKind.wrap .i64 ((i : Int) + 3) = (i : Int) + 3 := wrap64_id (by omega) (by omega)
          simp only [hlt, decide_true, rs, hw3, hj5, fa_c0, cut_s ho 0 rfl, decide_false, g_un]
          refine stop ?_
          rw [show 3 - (j - i) = 0 by omega, Lx.octF]
      · simp only [hlt, decide_false, rs, fa_c0, cut_s ho 0 rfl, g_un]
        refine stop ?_
        rw [show j = s.length by omega, List.drop_length]
        cases 3 - (s.length - i) <;> rfl
end Go.Proofs.YtgffladaenimmaaGreatDoor
/- Contracts: literal strings of the program. -/
namespace Go.Proofs.YtgffladaenimmaaGreatDoor
set_option linter.unusedVariables false
set_option linter.unusedSimpArgs false
set_option linter.defProp false
open Eng Go.RowKit

/-- A Builder's bytes, in a region that reads. -/
theorem bldString_q {w0 w : World} {L : List Ent} (i : Nat) {b : Nat} {v : Value} {l : List UInt8} (ho : Own w0 w L) (hi : L[i]? = some (Bld b v l)) : Ret Tryz.prog 66 #[.pointer (some ⟨b, 0, none⟩)] w (fun r w' => r = .string ⟨l.toArray⟩ ∧ Own w0 w' L) := by
  refine (bldString_ret (ho.at_ i hi)).mono ?_
  rintro r w' ⟨e', ⟨rfl, rfl⟩, ht⟩
  have := ho.turn i hi ht
  have e : L.set i (Bld b v l) = L := by
    obtain ⟨h1, h2⟩ := List.getElem?_eq_some_iff.1 hi
    rw [← h2]; exact List.set_getElem_self h1
  rw [e] at this
  exact ⟨rfl, this⟩
theorem told_q {w0 w : World} {L : List Ent} {x : Value} {f : Nat} {args : Array Value} (ho : Own w0 w L) (h : Ret Tryz.prog f args w (fun v w' => v = x ∧ Below w.heap.size w w')) : Ret Tryz.prog f args w (fun r w' => r = x ∧ Own w0 w' L) :=
  h.mono fun _ _ r => ⟨r.1, ho.grow r.2⟩
theorem textG_eol {s : List UInt8} {i o : Nat} (h : i < s.length) (he : Lx.eol s[i] = true) : Lx.textG 0 o (s.drop i) = (Lx.textG 0 o (s.drop (Lx.line s i))).map fun r => (10 :: r.1, r.2 + (Lx.line s i - i)) := by
  have hd := Lx.drop_cons h
  have h1 := Lx.lineF_pos s[i] (s.drop (i + 1))
  have h2 := Lx.lineF_le (s.drop i)
  rw [hd] at h2
  have hl : Lx.line s i = i + Lx.lineF (s[i] :: s.drop (i + 1)) := by rw [Lx.line, hd]
  rw [hd, Lx.textG, if_pos he, Lx.textG_skip _ _ _ (by simp at h2 ⊢; omega), Option.map_map, List.drop_drop, hl, show i + 1 + (Lx.lineF (s[i] :: s.drop (i + 1)) - 1) = i + Lx.lineF (s[i] :: s.drop (i + 1)) by omega]
  congr 1
  funext r
  refine Prod.ext rfl ?_
  simp only [Function.comp]; omega
theorem textG_esc {s : List UInt8} {i o : Nat} (h : i + 1 < s.length) (he : s[i] = 92) : Lx.textG 0 o (s.drop i) = (Lx.textG 0 o (s.drop (i + 1 + (Lx.escF (s.drop (i + 1))).2))).map fun r => ((Lx.escF (s.drop (i + 1))).1 ++ r.1, r.2 + 1 + (Lx.escF (s.drop (i + 1))).2) := by
  have hd := Lx.drop_cons (show i < s.length by omega)
  have hd2 := Lx.drop_cons h
  have h2 := Lx.escF_le (s.drop (i + 1))
  have hn : Lx.eol s[i] = false := by rw [he]; rfl
  rw [hd, Lx.textG, if_neg (by rw [hn]; decide), if_pos he]
  rw [if_neg (by rw [hd2]; exact List.cons_ne_nil _ _), Lx.textG_skip _ _ _ h2, Option.map_map, List.drop_drop]
  congr 1
  funext r
  refine Prod.ext rfl ?_
  simp only [Function.comp]; omega
theorem text_ret (s : List UInt8) (a : Nat) (w : World) (hs : s.length ≤ 1099511627776) (ha : a < s.length) : Ret Tryz.prog 83 #[cutV s a] w (fun v w' => v = tokR (Lx.text s a) ∧ Below w.heap.size w w') := by
  refine ret_of fun K hK => S_lex_cutter_text_ok ?_
  unfold S_lex_cutter_text
  refine o_cut s a (Own.start w) fun b1 w1 ho => ?_
  refine o_tok ho fun b w2 ho => ?_
  refine o_new (fun b => .pointer (some ⟨b, 0, none⟩)) [.pointer none, .slice none 0 0] 90 (fun _ => by kernel_rfl) ho fun b4 w3 ho => ?_
  have ho : Own w w3 [Bld b4 (.slice none 0 0) [], tokE b Lx.none_, cutE b1 s a] := OwnS.closeB (l := []) (.inl rfl) roomy_nil ((ho.nilRow 5 1).swap)
  have hw1 : IntKind.wrap .i64 ((a : Int) + 1) = ((a + 1 : Nat) : Int) := by rw [wrap64_id (by omega) (by omega)]; omega
  simp only [fa_c1, cut_a ho 2 rfl, rs, hw1]
  refine loop (fun vs w' => ∃ (i o : Nat) (v d : Value) (acc : List UInt8), vs = [d, .int .i64 o, .int .i64 i] ∧ a + 1 ≤ i ∧ i ≤ s.length ∧ 1 ≤ o ∧ o ≤ i ∧ acc.length ≤ i ∧ Lx.textG 0 1 (s.drop (a + 1)) = (Lx.textG 0 o (s.drop i)).map (fun r => (acc ++ r.1, r.2 + (i - (a + 1)))) ∧ Own w w' [Bld b4 v acc, tokE b Lx.none_, cutE b1 s a])
    (fun vs _ => s.length - n2 vs) ⟨a + 1, 1, _, _, [], rfl, by omega, by omega, by omega, by omega, by simp, by simp, ho⟩ ?_
  rintro vs w4 ⟨i, o, v, d, acc, rfl, hi1, hi2, ho1, ho2, hacc, he, ho⟩ _
  simp only [S_lex_cutter_text_0, gd, fa_c0, cut_s ho 2 rfl, s_len Tryz.underlying9]
  rw [b_lss]
  have bad : ∀ {w5}, Own w w5 [Bld b4 v acc, tokE b Lx.none_, cutE b1 s a] → Lx.textG 0 o (s.drop i) = none → CallX Tryz.prog 78 #[(.int .i64 4)] w5 (pk K) fun t42 w =>
      DoX Tryz.prog (mExt t42 0) w (pk K) fun t43 w =>
      DoX Tryz.prog (mExt t42 1) w (pk K) fun t44 w =>
      DoX Tryz.prog (mStore 63 (.pointer (some ⟨b, 0, none⟩)) t43) w (pk K) fun _ w =>
      RetX Tryz.prog [.cell (.pointer (some ⟨b, 0, none⟩)) 63, .val t44] w K := by
    intro w5 ho hn
    rw [hn, Option.map_none] at he
    exact tok_tail 1 ho rfl (refused_ret 4 _) fun w' hb => hK _ _ ⟨by rw [Lx.text, he], hb⟩
  by_cases hlt : (i : Int) < (s.length : Int)
  · have hi3 : i < s.length := by omega
    have hd := Lx.drop_cons hi3
    simp only [hlt, decide_true, i_t, cut_v ho 2 rfl]
    refine c_below ho (end_ret s a i w4 hs hi3) ?_
    rintro _ w5 rfl ho
    rw [x_0, x_1]
    cases hE : Lx.eol s[i] with
    | true =>
      simp only [if_true, i_t]
      have hlp := Lx.lineF_pos s[i] (s.drop (i + 1))
      have hll := Lx.lineF_le (s.drop i)
      have hL : Lx.line s i = i + Lx.lineF (s.drop i) := rfl
      rw [← hd] at hlp
      rw [List.length_drop] at hll
      refine c_turn 0 ho rfl (writeByteN_ret (k := 10) (ho.at_ 0 rfl) (by omega) rfl (by omega)) ?_
      rintro _ _ w6 ⟨rfl, v', rfl⟩ ho
      refine nextX ⟨Lx.line s i, o, v', _, acc ++ [10], rfl, by omega, by omega, ho1, by omega, by simp; omega, ?_, ho⟩ (by simp [n2, intOf]; omega)
      rw [he, textG_eol hi3 hE, Option.map_map]
      congr 1
      funext r
      refine Prod.ext (by simp) ?_
      simp only [Function.comp]; omega
    | false =>
      simp only [Bool.false_eq_true, if_false, i_f]
      refine join fun J hJ => ?_
      simp only [fa_c0, cut_s ho 2 rfl, s_at hi3]
      have e1 := u8d s[i] 92 92 rfl
      have e2 := u8d s[i] 40 40 rfl
      have e3 := u8d s[i] 41 41 rfl
      have hne : ¬ (Lx.eol s[i] = true) := by rw [hE]; decide
      rw [hd, Lx.textG, if_neg hne] at he
      have hput : ∀ (o' : Nat) (d : Value), 1 ≤ o' → o' ≤ i + 1 → Lx.textG 0 1 (s.drop (a + 1)) = (Lx.textG 0 o' (s.drop (i + 1))).map (fun r => (acc ++ s[i] :: r.1, r.2 + 1 + (i - (a + 1)))) → J [d, .int .i64 o', .int .i64 i] w5 := by
        intro o' d h1 h2 he
        refine hJ _ _ fun _ => ?_
        have h0 : ¬ ((o' : Int) = 0) := by omega
        simp only [S_lex_cutter_text_1, gd, rs, h0, decide_false, fa_c0, cut_s ho 2 rfl, s_at hi3]
        refine c_turn 0 ho rfl (writeByte_ret (c := s[i]) (ho.at_ 0 rfl) (by omega)) ?_
        rintro _ _ w6 ⟨rfl, v', rfl⟩ ho
        rw [wrap64_id (by omega) (by omega)]
        refine nextX ⟨i + 1, o', v', _, acc ++ [s[i]], rfl, by omega, by omega, h1, by omega, by simp; omega, ?_, ho⟩ (by simp [n2, intOf]; omega)
        rw [he]
        congr 1
        funext r
        refine Prod.ext (by simp) ?_
        simp only; omega
      by_cases g1 : s[i] = 92
      · simp only [rs, e1, decide_eq_true g1]
        rw [wrap64_id (by omega) (by omega)]
        simp only [fa_c0, cut_s ho 2 rfl, s_len Tryz.underlying9, rs]
        rw [if_pos g1] at he
        by_cases hend : (i : Int) + 1 = (s.length : Int)
        · simp only [hend, decide_true, i_t]
          refine bad ho ?_
          rw [hd, Lx.textG, if_neg hne, if_pos g1, if_pos (List.drop_eq_nil_of_le (by omega))]
        · have hi4 : i + 1 < s.length := by omega
          simp only [hend, decide_false, i_f, cut_v ho 2 rfl, rs]
          rw [show (i : Int) + 1 = ((i + 1 : Nat) : Int) by omega]
          have hel := Lx.escF_le (s.drop (i + 1))
          rw [List.length_drop] at hel
          refine c_below ho (escaped_ret s a (i + 1) w5 hs hi4) ?_
          rintro _ w6 rfl ho
          rw [x_0, x_1]
          have hxl : (Lx.escF (s.drop (i + 1))).1.length ≤ 1 := by
            rw [Lx.drop_cons hi4, Lx.escF]
            split
            · simp
            · split
              · simp
              · split <;> simp
          refine c_turn 0 ho rfl (writeString_ret (ho.at_ 0 rfl) (by omega)) ?_
          rintro _ _ w7 ⟨_, v', rfl⟩ ho
          refine nextX ⟨i + 1 + (Lx.escF (s.drop (i + 1))).2, o, v', _, acc ++ (Lx.escF (s.drop (i + 1))).1, rfl, by omega, by omega, ho1, by omega, by simp; omega, ?_, ho⟩ (by simp [n2, intOf]; omega)
          have := textG_esc (o := o) hi4 g1
          rw [hd, Lx.textG, if_neg hne, if_pos g1] at this
          rw [he, this, Option.map_map]
          congr 1
          funext r
          refine Prod.ext (by simp) ?_
          simp only [Function.comp]; omega
      rw [if_neg g1] at he
      simp only [rs, e1, decide_eq_false g1]
      by_cases g2 : s[i] = 40
      · simp only [rs, e2, decide_eq_true g2]
        rw [wrap64_id (by omega) (by omega)]
        rw [if_pos g2, Option.map_map] at he
        exact hput (o + 1) d (by omega) (by omega) he
      rw [if_neg g2] at he
      simp only [rs, e2, decide_eq_false g2]
      by_cases g3 : s[i] = 41
      · simp only [rs, e3, decide_eq_true g3]
        rw [wrap64_id (by omega) (by omega)]
        rw [if_pos g3] at he
        by_cases g4 : o ≤ 1
        · have g5 : (o : Int) - 1 = 0 := by omega
          rw [if_pos g4, Option.map_some, List.append_nil] at he
          rw [g5]
          refine hJ _ _ fun _ => ?_
          simp only [S_lex_cutter_text_1, gd, rs, decide_true]
          refine quietC (fun w' => Own w w' [Bld b4 v acc, tokE b Lx.none_, cutE b1 s a]) ho.drew ?_
          refine q_at _ (fun _ ho => cutr_v ho 2 rfl) ?_
          refine q_do (.int .i64 ((i : Int) + 1)) (fun _ => by rw [r_add, wrap64_id (by omega) (by omega)]) ?_
          refine q_call _ (fun _ ho => bldString_q 0 ho rfl) ?_
          refine q_call (tokR (Lx.told 3 a ((i : Int) + 1) acc 32767)) (fun w' ho => told_q ho (told_ret s a 3 _ acc 32767 w')) ?_
          refine q_do _ (fun _ => run_ext0) (q_do _ (fun _ => run_ext1) ?_)
          intro w6 ho
          refine tok_put 1 ho rfl fun w' ho => hK _ _ ⟨?_, ho.done⟩
          simp only [Lx.text, he]
          rw [show ((a + 1 + (1 + (i - (a + 1))) : Nat) : Int) = (i : Int) + 1 by omega]
        · rw [if_neg g4, Option.map_map] at he
          rw [show (o : Int) - 1 = ((o - 1 : Nat) : Int) by omega]
          exact hput (o - 1) d (by omega) (by omega) he
      rw [if_neg g3, Option.map_map] at he
      simp only [rs, e3, decide_eq_false g3]
      exact hput o d ho1 (by omega) he
  · have hi3 : i = s.length := by omega
    simp only [hlt, decide_false, i_f]
    refine bad ho ?_
    rw [hi3, List.drop_length]; rfl
end Go.Proofs.YtgffladaenimmaaGreatDoor
/- Contracts: hexadecimal strings of the program. -/
namespace Go.Proofs.YtgffladaenimmaaGreatDoor
set_option linter.unusedVariables false
set_option linter.unusedSimpArgs false
set_option linter.defProp false
open Eng Go.RowKit

def n3 (vs : List Value) : Nat := (intOf (vs.getD 3 undef)).toNat
theorem hexS {w : World} {PK : List PanicEntry → World → Prop} {K : Value → World → Prop} {a : Int} (c : Nat) (ha : 0 ≤ a) (ha2 : a ≤ 15) : DoX Tryz.prog (mBin .shl 3 (.int .i64 a) (.int .u64 4)) w PK K = K (.int .i64 (16 * a)) w := by
  rw [b_shl (by omega)]
  have := hexor_fin ⟨a.toNat, by omega⟩ ⟨0, by omega⟩
  have e : a * 2 ^ (min (4 : Int).toNat IntKind.i64.bits) = 16 * a := by
    rw [show (2 : Int) ^ (min (4 : Int).toNat IntKind.i64.bits) = 16 from rfl]; omega
  rw [e, wrap64_id (by omega) (by omega)]
theorem cut_hex_ret (s : List UInt8) (a : Nat) (w : World) (hs : s.length ≤ 1099511627776) (ha : a < s.length) : Ret Tryz.prog 81 #[cutV s a] w (fun v w' => v = tokR (Lx.hex s a) ∧ Below w.heap.size w w') := by
  refine ret_of fun K hK => S_lex_cutter_hex_ok ?_
  unfold S_lex_cutter_hex
  refine o_cut s a (Own.start w) fun b1 w1 ho => ?_
  refine o_tok ho fun b w2 ho => ?_
  have hw1 : IntKind.wrap .i64 ((a : Int) + 1) = ((a + 1 : Nat) : Int) := by rw [wrap64_id (by omega) (by omega)]; omega
  simp only [fa_c1, cut_a ho 1 rfl, rs, hw1]
  let ext (acc : List UInt8) (n : Nat) (r : (List UInt8 × Nat) ⊕ Int) : (List UInt8 × Nat) ⊕ Int := match r with | .inl r => .inl (acc ++ r.1, r.2 + n) | .inr e => .inr e
  refine loop (fun vs w' => ∃ (i : Nat) (h : Int) (v d : Value) (acc : List UInt8), vs = [d, v, .int .i64 h, .int .i64 i] ∧ a + 1 ≤ i ∧ i ≤ s.length ∧ -1 ≤ h ∧ h ≤ 15 ∧ acc.length ≤ i ∧ Lx.hexF (-1) (s.drop (a + 1)) = ext acc (i - (a + 1)) (Lx.hexF h (s.drop i)) ∧ Own w w' [BRow v acc, tokE b Lx.none_, cutE b1 s a])
    (fun vs _ => s.length - n3 vs) ⟨a + 1, -1, _, _, [], rfl, by omega, by omega, by omega, by omega, by simp, ?_, ho.nilRow _ 1⟩ ?_
  · cases Lx.hexF (-1) (s.drop (a + 1)) <;> simp [ext]
  rintro vs w4 ⟨i, h, v, d, acc, rfl, hi1, hi2, hh1, hh2, hacc, he, ho⟩ _
  simp only [S_lex_cutter_hex_0, gd, fa_c0, cut_s ho 2 rfl, s_len Tryz.underlying9]
  rw [b_lss]
  have bad : ∀ (e : Int) {w5}, Own w w5 [BRow v acc, tokE b Lx.none_, cutE b1 s a] → Lx.hexF h (s.drop i) = .inr e → CallX Tryz.prog 78 #[(.int .i64 e)] w5 (pk K) fun t42 w =>
      DoX Tryz.prog (mExt t42 0) w (pk K) fun t43 w =>
      DoX Tryz.prog (mExt t42 1) w (pk K) fun t44 w =>
      DoX Tryz.prog (mStore 63 (.pointer (some ⟨b, 0, none⟩)) t43) w (pk K) fun _ w =>
      RetX Tryz.prog [.cell (.pointer (some ⟨b, 0, none⟩)) 63, .val t44] w K := by
    intro e w5 ho hn
    rw [hn] at he
    exact tok_tail 1 ho rfl (refused_ret e _) fun w' hb => hK _ _ ⟨by simp only [Lx.hex, he, ext], hb⟩
  by_cases hlt : (i : Int) < (s.length : Int)
  · have hi3 : i < s.length := by omega
    have hd := Lx.drop_cons hi3
    simp only [hlt, decide_true, i_t]
    refine join fun J hJ => ?_
    simp only [fa_c0, cut_s ho 2 rfl, s_at hi3]
    have e1 := u8d s[i] 62 62 rfl
    have go : ∀ (h' : Int) (v' d' : Value) (acc' : List UInt8) (w5 : World), -1 ≤ h' → h' ≤ 15 → acc'.length ≤ i + 1 → Lx.hexF (-1) (s.drop (a + 1)) = ext acc' (i + 1 - (a + 1)) (Lx.hexF h' (s.drop (i + 1))) → Own w w5 [BRow v' acc', tokE b Lx.none_, cutE b1 s a] → J [d', v', .int .i64 h'] w5 := by
      intro h' v' d' acc' w5 h1 h2 h3 h4 ho
      refine hJ _ _ fun _ => ?_
      simp only [S_lex_cutter_hex_2, gd, rs]
      rw [wrap64_id (by omega) (by omega)]
      exact nextX ⟨i + 1, h', v', _, acc', rfl, by omega, by omega, h1, h2, h3, h4, ho⟩ (by simp [n3, intOf]; omega)
    rw [hd, Lx.hexF] at he
    have hb0 := Lx.digit_bd s[i]
    by_cases g1 : s[i] = 62
    · simp only [rs, e1, decide_eq_true g1]
      rw [if_pos g1] at he
      refine join fun J3 hJ3 => ?_
      have fin : ∀ (v' : Value) (acc' : List UInt8) (w5 : World), acc' = acc ++ (if 0 ≤ h then [Lx.byte h 0] else []) → Own w w5 [BRow v' acc', tokE b Lx.none_, cutE b1 s a] → J3 [v'] w5 := by
        intro v' acc' w5 hacc' ho
        refine hJ3 _ _ fun _ => ?_
        simp only [S_lex_cutter_hex_1, gd, rs, cut_v ho 2 rfl, o_strB 0 ho rfl]
        rw [wrap64_id (by omega) (by omega)]
        refine tok_tail 1 ho rfl (told_ret s a 3 _ acc' 32767 _) fun w' hb => hK _ _ ⟨?_, hb⟩
        simp only [Lx.hex, he, ext]
        rw [hacc', show ((a + 1 + (1 + (i - (a + 1))) : Nat) : Int) = (i : Int) + 1 by omega]
      by_cases g2 : 0 ≤ h
      · simp only [rs, g2, decide_true]
        rw [hexS 0 g2 hh2, c_8, wrap8_mod]
        have hb := byte_nat (a := h) (b := 0) g2 hh2 (by omega) (by omega)
        refine o_app1 (Lx.byte h 0) (by omega) ho (by omega) fun v' w6 ho => ?_
        exact fin _ _ _ (by rw [if_pos g2]) ho
      · simp only [rs, g2, decide_false]
        exact fin _ _ _ (by rw [if_neg g2, List.append_nil]) ho
    rw [if_neg g1] at he
    simp only [rs, e1, decide_eq_false g1]
    refine c_eq (digit_ret s[i] w4) ?_
    refine c_eq (white_ret s[i] w4) ?_
    cases hw : Oc.white s[i] with
    | true =>
      simp only [rs]
      rw [if_pos hw] at he
      refine go h v _ acc _ hh1 hh2 (by omega) ?_ ho
      rw [he]
      cases Lx.hexF h (s.drop (i + 1)) with
      | inl r => simp only [ext]; rw [show r.2 + 1 + (i - (a + 1)) = r.2 + (i + 1 - (a + 1)) by omega]
      | inr e => rfl
    | false =>
      rw [if_neg (by rw [hw]; decide)] at he
      by_cases g2 : Lx.digit s[i] < 0
      · simp only [rs, g2, decide_true]
        refine bad 3 ho ?_
        rw [hd, Lx.hexF, if_neg g1, if_neg (by rw [hw]; decide), if_pos g2]
      rw [if_neg g2] at he
      by_cases g3 : h < 0
      · simp only [rs, g2, g3, decide_false, decide_true]
        rw [if_pos g3] at he
        refine go _ v _ acc _ hb0.1 hb0.2 (by omega) ?_ ho
        rw [he]
        cases Lx.hexF (Lx.digit s[i]) (s.drop (i + 1)) with
        | inl r => simp only [ext]; rw [show r.2 + 1 + (i - (a + 1)) = r.2 + (i + 1 - (a + 1)) by omega]
        | inr e => rfl
      · simp only [rs, g2, g3, decide_false]
        rw [if_neg g3] at he
        have hor := hexor (a := h) (b := Lx.digit s[i]) (by omega) (by omega) (by omega) (by omega)
        rw [b_shl (by omega), b_or, hor, c_8, wrap8_id (by omega) (by omega)]
        refine o_app1 (Lx.byte h (Lx.digit s[i])) (byte_nat (by omega) (by omega) (by omega) (by omega)) ho (by omega) fun v' w6 ho => ?_
        refine go (-1) v' _ _ _ (by omega) (by omega) (by simp; omega) ?_ ho
        rw [he]
        cases Lx.hexF (-1) (s.drop (i + 1)) with
        | inl r => simp only [ext, List.append_assoc, List.singleton_append]; rw [show r.2 + 1 + (i - (a + 1)) = r.2 + (i + 1 - (a + 1)) by omega]
        | inr e => rfl
  · have hi3 : i = s.length := by omega
    simp only [hlt, decide_false, i_f]
    refine bad 4 ho ?_
    rw [hi3, List.drop_length]; rfl
end Go.Proofs.YtgffladaenimmaaGreatDoor
/- Contracts: the reference's form and Read. -/
namespace Go.Proofs.YtgffladaenimmaaGreatDoor
set_option linter.unusedVariables false
set_option linter.unusedSimpArgs false
set_option linter.defProp false
open Eng Go.RowKit
set_option linter.unusedVariables false
set_option linter.unusedSimpArgs false

theorem u8i (c : UInt8) (k : Nat) (d : UInt8) (hd : d.toNat = k) : ((c.toNat : Int) = (k : Int)) ↔ c = d := by
  rw [← UInt8.toNat_inj, hd]; omega

theorem form_ret (s : List UInt8) (w : World) (hs : s.length ≤ 4611686018427387904) : Ret Tryz.prog 174 #[.string ⟨s.toArray⟩] w
    (fun v w' => (∃ (a b : List UInt8) (m : Bool), v = .tuple #[.string ⟨a.toArray⟩, .string ⟨b.toArray⟩, .bool m, .bool (Fx.form s)] ∧ (Fx.form s = true → a = Fx.whole (Fx.body s) ∧ b = Fx.part (Fx.body s) ∧ m = Fx.minus s)) ∧ w = w') := by
  refine ret_of fun K hK => S_foliantref02_form_ok ?_
  unfold S_foliantref02_form
  simp only [s_len Tryz.underlying9, rs]
  by_cases h40 : (40 : Int) < (s.length : Int)
  · simp only [h40, decide_true, rs]
    have hf : Fx.form s = false := by rw [Fx.form, decide_eq_false (by omega), Bool.false_and, Bool.false_and, Bool.false_and]
    exact hK _ _ ⟨⟨[], [], false, by rw [hf], by rw [hf]; intro h; cases h⟩, rfl⟩
  · simp only [h40, decide_false, rs]
    have main : ∀ (l : List UInt8) (m : Bool), l = Fx.body s → m = Fx.minus s → l.length ≤ s.length → S_foliantref02_form_0 (.string ⟨l.toArray⟩) (.bool m) w K := by
      intro l m hl hm hls
      unfold S_foliantref02_form_0
      have hscan := Fx.scan_false l []
      refine loop (fun vs w' => ∃ (a b : List UInt8) (pt : Bool) (k : Nat), vs = [.string ⟨a.toArray⟩, .string ⟨b.toArray⟩, .bool pt, .int .i64 k] ∧ k ≤ l.length ∧ a.length + b.length ≤ k ∧ Fx.scan (l.drop k) a b pt = Fx.scan l [] [] false ∧ w = w')
        (fun vs _ => l.length - (intOf (vs.getD 3 undef)).toNat) ⟨[], [], false, 0, rfl, by omega, by simp, by simp, rfl⟩ ?_
      rintro vs w' ⟨a, b, pt, k, rfl, hk, hab, hsc, rfl⟩ _
      simp only [S_foliantref02_form_1, gd, s_len Tryz.underlying9, rs]
      by_cases hlt : k < l.length
      · have hlt' : (k : Int) < (l.length : Int) := by omega
        simp only [hlt', decide_true, rs]
        have hd : l.drop k = l[k] :: l.drop (k + 1) := (List.getElem_cons_drop hlt).symm
        have hg : l[(k : Int).toNat]? = some l[k] := by rw [Int.toNat_natCast]; exact List.getElem?_eq_getElem hlt
        rw [hd] at hsc
        generalize l[k] = c at *
        have hsl : ((l.drop (k : Int).toNat).take (((k : Int) + 1).toNat - (k : Int).toNat)) = [c] := by
          rw [Int.toNat_natCast, hd, show ((k : Int) + 1).toNat - k = 1 by omega]; rfl
        refine join fun J hJ => ?_
        have next : ∀ (a' b' : List UInt8) (pt' : Bool), a'.length + b'.length ≤ k + 1 → Fx.scan (l.drop (k + 1)) a' b' pt' = Fx.scan l [] [] false → J [.string ⟨a'.toArray⟩, .string ⟨b'.toArray⟩, .bool pt'] w := by
          intro a' b' pt' h1 h2
          refine hJ _ _ fun _ => ?_
          simp only [S_foliantref02_form_2, gd, rs]
          rw [wrap64_id (by omega) (by omega)]
          exact nextX ⟨a', b', pt', k + 1, by simp, by omega, h1, h2, rfl⟩ (by simp [intOf]; omega)
        simp only [s_ix Tryz.underlying9 (show (0 : Int) ≤ (k : Int) by omega) hg, rs]
        have rest : ¬ (c = 46 ∧ pt = false) → Fx.isDig c = true → IfX (.bool pt) (DoX Tryz.prog (mSlice 9 (.string ⟨l.toArray⟩) (some (.int .i64 k)) (some (.int .i64 (k + 1))) none) w (pk K) fun t61 ww =>
            DoX Tryz.prog (mBin .add 9 (.string ⟨b.toArray⟩) t61) ww (pk K) fun t62 ww =>
            J [.string ⟨a.toArray⟩, t62, .bool pt] ww) (DoX Tryz.prog (mSlice 9 (.string ⟨l.toArray⟩) (some (.int .i64 k)) (some (.int .i64 (k + 1))) none) w (pk K) fun t68 ww =>
            DoX Tryz.prog (mBin .add 9 (.string ⟨a.toArray⟩) t68) ww (pk K) fun t69 ww =>
            J [t69, .string ⟨b.toArray⟩, .bool pt] ww) := by
          intro hn hdg
          cases pt with
          | true =>
            simp only [rs]
            rw [s_slice Tryz.underlying9 (by omega) (by omega) (by omega), hsl, s_add (by simp; omega)]
            refine next a (b ++ [c]) true (by simp; omega) ?_
            rw [← hsc, Fx.scan, if_pos hdg]
          | false =>
            simp only [rs]
            rw [s_slice Tryz.underlying9 (by omega) (by omega) (by omega), hsl, s_add (by simp; omega)]
            refine next (a ++ [c]) b false (by simp; omega) ?_
            have hc : c ≠ 46 := fun e => hn ⟨e, rfl⟩
            rw [← hsc, Fx.scan, if_neg hc, if_pos hdg]
        have fail : Fx.scan l [] [] false = none → K (.returned (.tuple #[.string ⟨#[]⟩, .string ⟨#[]⟩, .bool false, .bool false])) w := by
          intro hno
          have hf : Fx.form s = false := by
            rw [hscan] at hno
            have hall : ((Fx.whole l).all Fx.isDig && (Fx.part l).all Fx.isDig) = false := by
              cases hh : ((Fx.whole l).all Fx.isDig && (Fx.part l).all Fx.isDig) with
              | false => rfl
              | true => rw [hh] at hno; cases hno
            rw [hl] at hall
            rw [Fx.form, Bool.and_assoc (decide _), hall, Bool.and_false, Bool.false_and]
          exact hK _ _ ⟨⟨[], [], false, by rw [hf], by rw [hf]; intro h; cases h⟩, rfl⟩
        by_cases hc : c = 46
        · subst hc
          simp only [show (((46 : UInt8).toNat : Nat) : Int) = 46 from rfl, decide_true, rs]
          cases pt with
          | false =>
            simp only [rs]
            refine next a b true (by omega) ?_
            rw [← hsc, Fx.scan, if_pos rfl]
          | true =>
            simp only [rs, show ((46 : Int) < 48) by omega, decide_true]
            refine fail ?_
            rw [← hsc, Fx.scan]; rfl
        · have hc' : ¬ ((c.toNat : Int) = 46) := fun e => hc ((u8i c 46 46 rfl).1 e)
          simp only [hc', decide_false, rs]
          by_cases hdg : Fx.isDig c = true
          · have hdb := Fx.isDig_bd hdg
            simp only [show ¬ ((c.toNat : Int) < 48) by omega, show ¬ ((57 : Int) < (c.toNat : Int)) by omega, decide_false, rs, s_ix Tryz.underlying9 (show (0 : Int) ≤ (k : Int) by omega) hg]
            rw [wrap64_id (by omega) (by omega)]
            exact rest (fun e => hc e.1) hdg
          · have hnd : Fx.scan l [] [] false = none := by
              rw [← hsc]
              cases pt with
              | true => rw [Fx.scan, if_neg hdg]
              | false => rw [Fx.scan, if_neg hc, if_neg hdg]
            have hdb : (c.toNat : Int) < 48 ∨ (57 : Int) < (c.toNat : Int) := by
              simp [Fx.isDig] at hdg; omega
            by_cases h48 : (c.toNat : Int) < 48
            · simp only [h48, decide_true, rs]; exact fail hnd
            · have h57 : (57 : Int) < (c.toNat : Int) := by omega
              simp only [h48, h57, decide_true, decide_false, rs, s_ix Tryz.underlying9 (show (0 : Int) ≤ (k : Int) by omega) hg]; exact fail hnd
      · have hlt' : ¬ (k : Int) < (l.length : Int) := by omega
        simp only [hlt', decide_false, rs]
        rw [wrap64_id (by omega) (by omega)]
        have hd : l.drop k = [] := List.drop_eq_nil_of_le (by omega)
        have he : Fx.scan [] a b pt = some (a, b) := by cases pt <;> rfl
        rw [hd, he, hscan] at hsc
        have hall : ((Fx.whole l).all Fx.isDig && (Fx.part l).all Fx.isDig) = true := by
          cases hh : ((Fx.whole l).all Fx.isDig && (Fx.part l).all Fx.isDig) with
          | true => rfl
          | false => rw [hh] at hsc; cases hsc
        rw [if_pos hall] at hsc
        simp only [List.nil_append, Option.some.injEq, Prod.mk.injEq] at hsc
        obtain ⟨rfl, rfl⟩ := hsc
        have hf : Fx.form s = decide ((0 : Int) < ((Fx.whole l).length : Int) + ((Fx.part l).length : Int)) := by
          rw [Fx.form, ← hl, Bool.and_assoc (decide _), hall, Bool.and_true, decide_eq_true (show s.length ≤ 40 by omega), Bool.true_and, decide_eq_decide]; omega
        exact hK _ _ ⟨⟨_, _, _, by rw [hf], fun _ => ⟨by rw [hl], by rw [hl], hm⟩⟩, rfl⟩
    refine join fun J hJ => ?_
    cases s with
    | nil =>
      simp only [ne_eq, not_true_eq_false, decide_false, rs, g_un]
      refine hJ _ _ fun _ => ?_
      exact main [] false rfl rfl (by simp)
    | cons c t =>
      have hix : (c :: t)[(0 : Int).toNat]? = some c := rfl
      simp only [ne_eq, reduceCtorEq, not_false_eq_true, decide_true, rs, s_ix Tryz.underlying9 (show (0 : Int) ≤ 0 by omega) hix]
      by_cases h43 : c = 43
      · subst h43
        simp only [show (((43 : UInt8).toNat : Nat) : Int) = 43 from rfl, show ¬ ((43 : Int) = 45) by omega, decide_true, decide_false, rs, s_ix Tryz.underlying9 (show (0 : Int) ≤ 0 by omega) hix]
        rw [s_from Tryz.underlying9 (by omega) (by simp; omega)]
        exact hJ _ _ fun _ => main t false rfl rfl (by simp)
      · have h43' : ¬ ((c.toNat : Int) = 43) := fun e => h43 ((u8i c 43 43 rfl).1 e)
        simp only [h43', decide_false, rs]
        by_cases h45 : c = 45
        · subst h45
          simp only [show (((45 : UInt8).toNat : Nat) : Int) = 45 from rfl, decide_true, rs, s_ix Tryz.underlying9 (show (0 : Int) ≤ 0 by omega) hix]
          rw [s_from Tryz.underlying9 (by omega) (by simp; omega)]
          exact hJ _ _ fun _ => main t true rfl rfl (by simp)
        · have h45' : ¬ ((c.toNat : Int) = 45) := fun e => h45 ((u8i c 45 45 rfl).1 e)
          simp only [h45', decide_false, rs, s_ix Tryz.underlying9 (show (0 : Int) ≤ 0 by omega) hix]
          refine hJ _ _ fun _ => ?_
          exact main (c :: t) false (by rw [Fx.body, if_neg (by simp [h43, h45])]) (by rw [Fx.minus, decide_eq_false h45]) (by simp)
end Go.Proofs.YtgffladaenimmaaGreatDoor
/- Contracts: Read, of the reference and of the program. -/
namespace Go.Proofs.YtgffladaenimmaaGreatDoor
set_option linter.unusedVariables false
set_option linter.unusedSimpArgs false
set_option linter.defProp false
open Eng Go.RowKit
set_option linter.unusedVariables false
set_option linter.unusedSimpArgs false

theorem ans_out {x : Int} (h : 1073741824 < x ∨ x < -1073741824) : Fx.ans x = (0, 2) := by
  have : Fx.okB x = false := by simp [Fx.okB]; omega
  rw [Fx.ans, this]; rfl
theorem form_parts {s : List UInt8} (h : Fx.form s = true) : s.length ≤ 40 ∧ (Fx.whole (Fx.body s)).all Fx.isDig = true ∧ (Fx.part (Fx.body s)).all Fx.isDig = true := by
  simp only [Fx.form, Bool.and_eq_true, decide_eq_true_eq] at h
  exact ⟨h.1.1.1, h.1.1.2, h.1.2⟩
/-- The reference's capped value answers alike. -/
theorem read_ref {s : List UInt8} (h : Fx.form s = true) : Fx.ans (if Fx.minus s then -(Fx.cap 0 (Fx.whole (Fx.body s) ++ Fx.four (Fx.part (Fx.body s))) + (if Fx.more ((Fx.part (Fx.body s)).drop 4) (Fx.minus s) then 1 else 0))
    else Fx.cap 0 (Fx.whole (Fx.body s) ++ Fx.four (Fx.part (Fx.body s))) + (if Fx.more ((Fx.part (Fx.body s)).drop 4) (Fx.minus s) then 1 else 0)) = Fx.read s := by
  obtain ⟨_, hw, hp⟩ := form_parts h
  have hall : (Fx.whole (Fx.body s) ++ Fx.four (Fx.part (Fx.body s))).all Fx.isDig = true := by rw [List.all_append, hw, Fx.four_all hp]; rfl
  rw [Fx.read, if_pos h, Fx.mag, Fx.cap_eq _ 0 0 hall (by omega) (by omega), Fx.val_append]
  have h1 := Fx.val_ge _ 0 hw (by omega)
  have h2 := Fx.val4 (Fx.four (Fx.part (Fx.body s))) (Fx.val 0 (Fx.whole (Fx.body s))) (Fx.four_length _) (Fx.four_all hp)
  generalize Fx.val 0 (Fx.whole (Fx.body s)) = W at *
  generalize Fx.val W (Fx.four (Fx.part (Fx.body s))) = V at *
  have hm : ∀ x : Bool, 0 ≤ (if x then (1 : Int) else 0) ∧ (if x then (1 : Int) else 0) ≤ 1 := by intro x; cases x <;> simp
  have hm' := hm (Fx.more ((Fx.part (Fx.body s)).drop 4) (Fx.minus s))
  generalize (if Fx.more ((Fx.part (Fx.body s)).drop 4) (Fx.minus s) then (1 : Int) else 0) = e at *
  by_cases hW : W > 1073741824
  · rw [if_pos hW]
    split <;> exact ans_out (by omega)
  · rw [if_neg hW]
    by_cases hV : V ≤ 1099511627776
    · rw [show min V 1099511627776 = V by omega]
    · split
      · rw [ans_out (x := -(min V 1099511627776 + e)) (by omega), ans_out (by omega)]
      · rw [ans_out (x := (min V 1099511627776 + e)) (by omega), ans_out (by omega)]

theorem rread_ret (s : List UInt8) (w : World) (hs : s.length ≤ 4611686018427387904) : Ret Tryz.prog 154 #[.string ⟨s.toArray⟩] w (fun v w' => v = pair (Fx.read s) ∧ Below w.heap.size w w') := by
  refine ret_of fun K hK => S_foliantref02_Read_ok ?_
  unfold S_foliantref02_Read
  refine c_ret (form_ret s w hs) ?_
  rintro v w1 ⟨⟨a, b, m, rfl, hf⟩, rfl⟩
  simp only [ex, rs]
  by_cases ho : Fx.form s = true
  · obtain ⟨rfl, rfl, rfl⟩ := hf ho
    obtain ⟨h40, hw, hp⟩ := form_parts ho
    have hbl : (Fx.body s).length ≤ s.length := by
      cases s with
      | nil => simp [Fx.body]
      | cons c t => rw [Fx.body]; split <;> simp
    have hwl : (Fx.whole (Fx.body s)).length ≤ (Fx.body s).length := by
      have := (List.takeWhile_sublist (fun c => c != 46) (l := Fx.body s)).length_le; exact this
    have hpl : (Fx.part (Fx.body s)).length ≤ (Fx.body s).length := by
      have := (List.dropWhile_sublist (fun c => c != 46) (l := Fx.body s)).length_le
      rw [Fx.part, List.length_drop]; omega
    have href := read_ref ho
    rw [ho]
    simp only [rs]
    have hall : (Fx.whole (Fx.body s) ++ Fx.four (Fx.part (Fx.body s))).all Fx.isDig = true := by rw [List.all_append, hw, Fx.four_all hp]; rfl
    rw [s_add (b := [48, 48, 48, 48]) (by simp; omega), s_upto Tryz.underlying9 (by omega) (by simp; omega)]
    change DoX _ (mBin .add _ _ (.string ⟨(Fx.four (Fx.part (Fx.body s))).toArray⟩)) _ _ _
    rw [s_add (by rw [Fx.four_length]; omega)]
    have hal : (Fx.whole (Fx.body s) ++ Fx.four (Fx.part (Fx.body s))).length ≤ 44 := by rw [List.length_append, Fx.four_length]; omega
    generalize Fx.whole (Fx.body s) ++ Fx.four (Fx.part (Fx.body s)) = all at *
    generalize Fx.part (Fx.body s) = part at *
    generalize Fx.minus s = neg at *
    refine loop (fun vs w' => ∃ k : Nat, k ≤ all.length ∧ vs = [.int .i64 (Fx.cap 0 (all.take k)), .int .i64 k] ∧ w = w') (fun vs _ => all.length - n1 vs) ⟨0, by omega, rfl, rfl⟩ ?_
    rintro vs w' ⟨k, hk, rfl, rfl⟩ _
    simp only [S_foliantref02_Read_0, gd, s_len Tryz.underlying9, rs]
    have hcb := Fx.cap_bd (all.take k) (by
      rw [List.all_eq_true] at hall ⊢
      exact fun x hx => hall x (List.mem_of_mem_take hx))
    by_cases hlt : k < all.length
    · have hlt' : (k : Int) < (all.length : Int) := by omega
      have hdg := Fx.isDig_bd (List.all_eq_true.1 hall all[k] (List.getElem_mem hlt))
      simp only [hlt', decide_true, rs]
      rw [s_ix (c := all[k]) Tryz.underlying9 (by omega) (by rw [Int.toNat_natCast]; exact List.getElem?_eq_getElem hlt)]
      simp only [rs]
      rw [wrap8_id (by omega) (by omega), c_int (show (Tryz.prog.underlying 5).isSome = true by kernel_rfl) Tryz.underlying2]
      simp only [rs, m_min]
      rw [wrap64_id (n := ((all[k].toNat : Nat) : Int) - 48) (by omega) (by omega), wrap64_id (n := 10 * _) (by omega) (by omega), wrap64_id (by omega) (by omega), wrap64_id (by omega) (by omega)]
      refine nextX ⟨k + 1, by omega, ?_, rfl⟩ (by simp [n1, intOf]; omega)
      rw [Fx.cap_take 0 all k hlt]; rfl
    · have hlt' : ¬ (k : Int) < (all.length : Int) := by omega
      simp only [hlt', decide_false, rs]
      rw [List.take_of_length_le (by omega)] at hcb ⊢
      generalize Fx.cap 0 all = n at *
      refine join fun J0 hJ0 => ?_
      have afterMore : ∀ b : Bool, b = Fx.more (part.drop 4) neg → S_foliantref02_Read_3 (.bool neg) (.int .i64 n) (.bool b) w K := by
        intro b hb
        subst hb
        rw [S_foliantref02_Read_3]
        refine join fun J3 hJ3 => ?_
        have h5 : ∀ m : Int, 0 ≤ m → m ≤ 1099511627777 → m = n + (if Fx.more (part.drop 4) neg then 1 else 0) → S_foliantref02_Read_4 (.bool neg) (.int .i64 m) w K := by
          intro m m0 m1 hm
          rw [S_foliantref02_Read_4]
          refine join fun J4 hJ4 => ?_
          have h6 : ∀ q : Int, q = (if neg then -m else m) → S_foliantref02_Read_5 (.int .i64 q) w K := by
            intro q hq
            rw [S_foliantref02_Read_5]
            refine c_ret (rwithin_ret q w) ?_
            rintro v w4 ⟨rfl, rfl⟩
            have hres : Fx.read s = Fx.ans q := by rw [← href, hq, hm]
            cases hq2 : Fx.okB q with
            | true =>
              simp only [rs]
              refine hK _ _ ⟨?_, Below.refl _ _⟩
              rw [hres, Fx.ans, hq2]; rfl
            | false =>
              simp only [rs]
              refine hK _ _ ⟨?_, Below.refl _ _⟩
              rw [hres, Fx.ans, hq2]; rfl
          cases neg with
          | true =>
            simp only [rs]
            rw [wrap64_id (by omega) (by omega)]
            refine hJ4 _ _ fun _ => ?_
            exact h6 (-m) rfl
          | false =>
            simp only [rs]
            refine hJ4 _ _ fun _ => ?_
            exact h6 m rfl
        cases hmo : Fx.more (part.drop 4) neg with
        | true =>
          simp only [rs]
          rw [wrap64_id (by omega) (by omega)]
          refine hJ3 _ _ fun _ => ?_
          exact h5 (n + 1) (by omega) (by omega) (by rw [hmo]; rfl)
        | false =>
          simp only [rs]
          refine hJ3 _ _ fun _ => ?_
          exact h5 n (by omega) (by omega) (by rw [hmo]; simp)
      have h1 : ∀ rest : List UInt8, rest = part.drop 4 → S_foliantref02_Read_1 (.bool neg) (.int .i64 n) (.string ⟨rest.toArray⟩) w K := by
        intro rest hr
        rw [← hr] at afterMore
        have hrl : rest.length ≤ 40 := by rw [hr, List.length_drop]; omega
        simp only [S_foliantref02_Read_1, rs]
        cases rest with
        | nil =>
          simp only [ne_eq, not_true_eq_false, decide_false, rs, g_un]
          refine join fun J2 hJ2 => ?_
          refine hJ2 _ _ fun _ => ?_
          exact afterMore false rfl
        | cons c t =>
          have hix : (c :: t)[(0 : Int).toNat]? = some c := rfl
          simp only [ne_eq, reduceCtorEq, not_false_eq_true, decide_true, rs, s_ix Tryz.underlying9 (show (0 : Int) ≤ 0 by omega) hix]
          refine join fun J2 hJ2 => ?_
          by_cases h5 : (53 : Int) ≤ (c.toNat : Int)
          · simp only [h5, decide_true, rs]
            have h5' : decide (53 ≤ c.toNat) = true := by simp; omega
            cases neg with
            | false =>
              simp only [rs]
              refine hJ2 _ _ fun _ => ?_
              exact afterMore true (by rw [Fx.more, h5']; rfl)
            | true =>
              simp only [rs, s_ix Tryz.underlying9 (show (0 : Int) ≤ 0 by omega) hix]
              refine loop (fun vs w' => ∃ j : Nat, j ≤ t.length ∧ vs = [.bool (decide (53 < c.toNat) || (t.take j).any (fun c => decide (48 < c.toNat))), .int .i64 ((j : Int) + 1)] ∧ w = w') (fun vs _ => t.length + 1 - n1 vs) ⟨0, by omega, by simp; omega, rfl⟩ ?_
              rintro vs w' ⟨j, hj, rfl, rfl⟩ _
              simp only [S_foliantref02_Read_2, gd, s_len Tryz.underlying9, rs]
              have hlc : ((c :: t).length : Int) = (t.length : Int) + 1 := by simp
              have hjx : (c :: t)[((j : Int) + 1).toNat]? = t[j]? := by rw [show ((j : Int) + 1).toNat = j + 1 by omega]; rfl
              rw [hlc]
              by_cases hjt : j < t.length
              · have hjt' : (j : Int) + 1 < (t.length : Int) + 1 := by omega
                have hjx2 : (c :: t)[((j : Int) + 1).toNat]? = some t[j] := by rw [hjx]; exact List.getElem?_eq_getElem hjt
                have htk : (t.take (j + 1)).any (fun c => decide (48 < c.toNat)) = ((t.take j).any (fun c => decide (48 < c.toNat)) || decide (48 < t[j].toNat)) := by
                  rw [List.take_succ_eq_append_getElem hjt, List.any_append]; simp
                simp only [hjt', decide_true, rs]
                cases hb : (decide (53 < c.toNat) || (t.take j).any (fun c => decide (48 < c.toNat))) with
                | true =>
                  simp only [rs, g_un]
                  rw [wrap64_id (by omega) (by omega)]
                  refine nextX ⟨j + 1, by omega, ?_, rfl⟩ (by simp [n1, intOf]; omega)
                  rw [htk, ← Bool.or_assoc, hb]; rfl
                | false =>
                  simp only [rs, s_ix Tryz.underlying9 (show (0 : Int) ≤ (j : Int) + 1 by omega) hjx2]
                  rw [wrap64_id (by omega) (by omega)]
                  refine nextX ⟨j + 1, by omega, ?_, rfl⟩ (by simp [n1, intOf]; omega)
                  rw [htk, ← Bool.or_assoc, hb, Bool.false_or]
                  have : decide ((48 : Int) < (t[j].toNat : Int)) = decide (48 < t[j].toNat) := by rw [decide_eq_decide]; omega
                  rw [this]; simp
              · have hjt' : ¬ (j : Int) + 1 < (t.length : Int) + 1 := by omega
                simp only [hjt', decide_false, rs]
                refine hJ2 _ _ fun _ => ?_
                refine afterMore _ ?_
                rw [Fx.more, h5', List.take_of_length_le (by omega)]; rfl
          · simp only [h5, decide_false, rs, g_un]
            have h5' : decide (53 ≤ c.toNat) = false := by simp; omega
            refine hJ2 _ _ fun _ => ?_
            exact afterMore false (by rw [Fx.more, h5']; rfl)
      by_cases h4 : (4 : Int) < (part.length : Int)
      · simp only [h4, decide_true, rs]
        rw [s_from Tryz.underlying9 (by omega) (by omega)]
        refine hJ0 _ _ fun _ => ?_
        exact h1 (part.drop 4) rfl
      · simp only [h4, decide_false, rs]
        refine hJ0 _ _ fun _ => ?_
        exact h1 [] (List.drop_eq_nil_of_le (by omega)).symm
  · have ho' : Fx.form s = false := by simpa using ho
    rw [ho']
    simp only [rs]
    exact hK _ _ ⟨by rw [Fx.read, if_neg ho], Below.refl _ _⟩
end Go.Proofs.YtgffladaenimmaaGreatDoor
/- Contracts: the program's Read. -/
namespace Go.Proofs.YtgffladaenimmaaGreatDoor
set_option linter.unusedVariables false
set_option linter.unusedSimpArgs false
set_option linter.defProp false
open Eng Go.RowKit
set_option linter.unusedVariables false
set_option linter.unusedSimpArgs false

theorem body_prefix (s : List UInt8) : Fx.minus s = ([45] : List UInt8).isPrefixOf s ∧ Fx.body s = (if ([45] : List UInt8).isPrefixOf s || ([43] : List UInt8).isPrefixOf s then s.drop 1 else s) ∧ (([45] : List UInt8).isPrefixOf s || ([43] : List UInt8).isPrefixOf s → 1 ≤ s.length) := by
  cases s with
  | nil => exact ⟨rfl, rfl, fun h => (by cases h)⟩
  | cons c t =>
    have e1 : ([45] : List UInt8).isPrefixOf (c :: t) = decide (c = 45) := by
      simp only [List.isPrefixOf, Bool.and_true]
      by_cases h : c = 45
      · subst h; rfl
      · rw [decide_eq_false h]; simp; exact fun e => h e.symm
    have e2 : ([43] : List UInt8).isPrefixOf (c :: t) = decide (c = 43) := by
      simp only [List.isPrefixOf, Bool.and_true]
      by_cases h : c = 43
      · subst h; rfl
      · rw [decide_eq_false h]; simp; exact fun e => h e.symm
    rw [e1, e2]
    refine ⟨rfl, ?_, fun _ => by simp⟩
    rw [Fx.body]
    by_cases h1 : c = 45 <;> by_cases h2 : c = 43 <;> simp [h1, h2]

theorem iterPos_obj {w0 w : World} {L : List Ent} (h : Own w0 w L) (i : Nat) {b : Nat} {s : ByteArray} {p : Nat} (hi : L[i]? = some (.obj b (.stringIter s p))) : w.iterPos b = p := by
  have : w.heap[b]? = some (.stringIter s p) := h.at_ i hi
  simp [World.iterPos, this]

theorem read3_any (w0 w : World) (b1 b2 : Nat) (m : Int) (neg : Bool) (h0 : 0 ≤ m) (h1 : m ≤ 1152921504606846976) (h : Own w0 w [.cells b2 [.int .i64 0] 23, .cells b1 [.int .i64 m] 2]) (K : Ending → World → Prop)
    (hk : ∀ w', Below w0.heap.size w0 w' → K (.returned (pair (Fx.ans (if neg then -m else m)))) w') :
    S_fix_Read_3 (.pointer (some ⟨b1, 0, none⟩)) (.pointer (some ⟨b2, 0, none⟩)) (.bool neg) w K := by
  rw [S_fix_Read_3]
  refine join fun J hJ => ?_
  have fin : ∀ (q : Int) (w1 : World), q = (if neg then -m else m) → Own w0 w1 [.cells b2 [.int .i64 0] 23, .cells b1 [.int .i64 q] 2] → J [] w1 := by
    intro q w1 hq ho
    refine hJ _ _ fun _ => ?_
    rw [S_fix_Read_4, l_cell (show notAgg Tryz.prog 2 = true by kernel_rfl) (ho.cell 1 rfl 0 rfl)]
    refine o_new (fun b => .slice (some ⟨b, 0, none⟩) 1 1) [.int .i64 q] 2 (fun _ => by kernel_rfl) ho fun b3 w3 h3 => ?_
    refine c_any (bounded_any _ [q] w3 (h3.sl 0 rfl 1 1 1 rfl) (by simp) _ (fun hok => ?_) (fun hbad => ?_)) (fun _ _ h => h)
    · have hok' : Fx.okB q = true := by simpa using hok
      simp only [Cont]
      rw [l_cell (show notAgg Tryz.prog 2 = true by kernel_rfl) (h3.cell 2 rfl 0 rfl)]
      refine o_store 2 h3 rfl (by kernel_rfl) rfl (by simp) fun w4 h4 => ?_
      refine o_store 1 h4 rfl (by kernel_rfl) rfl (by simp) fun w5 h5 => ?_
      refine door_ok 2 1 h5 rfl rfl K (fun w' hb => ?_)
      have := hk w' hb
      rw [← hq, Fx.ans, if_pos hok'] at this
      exact this
    · have hbad' : Fx.okB q = false := by simpa using hbad
      refine door_bad h3.tail K (fun w' hb => ?_)
      have := hk w' hb
      rw [← hq, Fx.ans, hbad'] at this
      exact this
  cases neg with
  | true =>
    simp only [rs, l_cell (show notAgg Tryz.prog 2 = true by kernel_rfl) (h.cell 1 rfl 0 rfl)]
    rw [wrap64_id (by omega) (by omega)]
    refine o_store 1 h rfl (by kernel_rfl) rfl (by simp) fun w4 h4 => ?_
    exact AtX.mk rfl (fin (-m) w4 rfl h4)
  | false =>
    simp only [rs]
    exact AtX.mk rfl (fin m w rfl h)

theorem pread_ret (s : List UInt8) (w : World) (hs : s.length ≤ 4611686018427387904) : Ret Tryz.prog 117 #[.string ⟨s.toArray⟩] w (fun v w' => v = pair (Fx.read s) ∧ Below w.heap.size w w') := by
  refine ret_of fun K hK => S_fix_Read_ok ?_
  unfold S_fix_Read
  refine o_new (fun b => .pointer (some ⟨b, 0, none⟩)) [.int .i64 0] 2 (fun _ => by kernel_rfl) (Own.start w) fun b1 w1 h1 => ?_
  refine o_new (fun b => .pointer (some ⟨b, 0, none⟩)) [.int .i64 0] 23 (fun _ => by kernel_rfl) h1 fun b2 w2 h2 => ?_
  simp only [s_len Tryz.underlying9, rs]
  have bad3 : Fx.form s = false → ∀ w', Below w.heap.size w w' → K (.returned (.tuple #[.int .i64 0, .int .i64 3])) w' := by
    intro hf w' hb
    exact hK _ _ ⟨by rw [Fx.read, hf]; rfl, hb⟩
  by_cases h40 : (40 : Int) < (s.length : Int)
  · simp only [h40, decide_true, rs]
    refine o_store 1 h2 rfl (by kernel_rfl) rfl (by simp) fun w4 h4 => ?_
    refine o_store 0 h4 rfl (by kernel_rfl) rfl (by simp) fun w5 h5 => ?_
    refine door_ok 1 0 h5 rfl rfl K (bad3 ?_)
    rw [Fx.form, decide_eq_false (by omega), Bool.false_and, Bool.false_and, Bool.false_and]
  · simp only [h40, decide_false, rs]
    obtain ⟨hmin, hbody, hpos⟩ := body_prefix s
    refine c_ret (hasPrefix_ret s [45] w2) ?_
    rintro v w3 ⟨rfl, rfl⟩
    have hlen : (Fx.body s).length ≤ s.length := by
      rw [hbody]; split
      · rw [List.length_drop]; omega
      · omega
    have main : S_fix_Read_0 (.string ⟨(Fx.body s).toArray⟩) (.pointer (some ⟨b1, 0, none⟩)) (.pointer (some ⟨b2, 0, none⟩)) (.bool (Fx.minus s)) w2 K := by
      rw [S_fix_Read_0]
      have hcut : Ret Tryz.prog 57 #[.string ⟨(Fx.body s).toArray⟩, .string ⟨#[46]⟩] w2 (fun v w' => (∃ b, v = .tuple #[.string ⟨(Fx.whole (Fx.body s)).toArray⟩, .string ⟨(Fx.part (Fx.body s)).toArray⟩, .bool b]) ∧ Below w2.heap.size w2 w') := cut_ret (Fx.body s) 46 w2 (by omega)
      refine c_ret hcut ?_
      rintro v w3 ⟨⟨fnd, rfl⟩, b3⟩
      have hform : Fx.form s = ((Fx.whole (Fx.body s)).all Fx.isDig && (Fx.part (Fx.body s)).all Fx.isDig && decide (0 < (Fx.whole (Fx.body s)).length + (Fx.part (Fx.body s)).length)) := by
        rw [Fx.form, decide_eq_true (show s.length ≤ 40 by omega), Bool.true_and]
      have hread : Fx.form s = true → Fx.read s = if Fx.val 0 (Fx.whole (Fx.body s)) > 1073741824 then (0, 2) else Fx.ans (if Fx.minus s then - Fx.mag s else Fx.mag s) := fun h => by rw [Fx.read, if_pos h]
      have hmag : Fx.mag s = Fx.val (Fx.val 0 (Fx.whole (Fx.body s))) (Fx.four (Fx.part (Fx.body s))) + (if Fx.more ((Fx.part (Fx.body s)).drop 4) (Fx.minus s) then 1 else 0) := rfl
      have hwl : (Fx.whole (Fx.body s)).length ≤ (Fx.body s).length := by
        have := (List.takeWhile_sublist (fun c => c != 46) (l := Fx.body s)).length_le; exact this
      have hpl : (Fx.part (Fx.body s)).length ≤ (Fx.body s).length := by
        have := (List.dropWhile_sublist (fun c => c != 46) (l := Fx.body s)).length_le
        rw [Fx.part, List.length_drop]; omega
      generalize Fx.whole (Fx.body s) = wh at *
      generalize Fx.part (Fx.body s) = part at *
      simp only [ex]
      rw [s_add (by omega)]
      have h3 := h2.grow b3
      simp only [rs]
      have good : Fx.form s = true → ∀ w4, Own w w4 [.cells b2 [.int .i64 0] 23, .cells b1 [.int .i64 0] 2] →
          DoX Tryz.prog (mRange 9 (.string ⟨wh.toArray⟩)) w4 (S_fix_Read_p0 (.pointer (some ⟨b1, 0, none⟩)) (.pointer (some ⟨b2, 0, none⟩)) K) fun t46 ww =>
          LoopX [] ww (fun vs2 w N2 => ∀ _ : Sg, S_fix_Read_1 (.pointer (some ⟨b1, 0, none⟩)) (.pointer (some ⟨b2, 0, none⟩)) (.bool (Fx.minus s)) (.string ⟨part.toArray⟩) t46 w N2 K) := by
        intro hf w4 h4
        have hread2 := hread hf
        have hdw : wh.all Fx.isDig = true ∧ part.all Fx.isDig = true := by
          rw [hform] at hf; simp only [Bool.and_eq_true] at hf; exact hf.1
        refine o_range Tryz.underlying9 h4 fun b5 w5 h5 => ?_
        refine loop (fun vs w' => ∃ k : Nat, k ≤ wh.length ∧ vs = [] ∧ Fx.val 0 (wh.take k) ≤ 1073741824 ∧ Own w w' [.obj b5 (.stringIter ⟨wh.toArray⟩ k), .cells b2 [.int .i64 0] 23, .cells b1 [.int .i64 (Fx.val 0 (wh.take k))] 2])
          (fun vs w' => wh.length - w'.iterPos b5) ⟨0, by omega, rfl, by simp [Fx.val], h5⟩ ?_
        rintro vs w6 ⟨k, hk, rfl, hv, ho⟩ _
        have hip := iterPos_obj ho 0 rfl
        rw [S_fix_Read_1]
        have hv0 := Fx.val_ge (wh.take k) 0 (by
          rw [List.all_eq_true]; exact fun x hx => List.all_eq_true.1 hdw.1 x (List.mem_of_mem_take hx)) (by omega)
        by_cases hlt : k < wh.length
        · have hdg := Fx.isDig_bd (List.all_eq_true.1 hdw.1 wh[k] (List.getElem_mem hlt))
          refine o_next 0 ho rfl (List.getElem?_eq_getElem hlt) (by omega) fun w7 h7 => ?_
          simp only [ex, rs, l_cell (show notAgg Tryz.prog 2 = true by kernel_rfl) (h7.cell 2 rfl 0 rfl)]
          rw [wrap32_id (by omega) (by omega), c_int (show (Tryz.prog.underlying 21).isSome = true by kernel_rfl) Tryz.underlying2]
          simp only [rs]
          rw [wrap64_id (n := ((wh[k].toNat : Nat) : Int) - 48) (by omega) (by omega), wrap64_id (n := 10 * _) (by omega) (by omega), wrap64_id (by omega) (by omega)]
          refine o_store 2 h7 rfl (by kernel_rfl) rfl (by simp) fun w8 h8 => ?_
          rw [l_cell (show notAgg Tryz.prog 2 = true by kernel_rfl) (h8.cell 2 rfl 0 rfl)]
          simp only [rs]
          have hvt := Fx.val_take 0 wh k hlt
          by_cases hbig : (1073741824 : Int) < 10 * Fx.val 0 (wh.take k) + ((wh[k].toNat : Int) - 48)
          · simp only [hbig, decide_true, rs]
            refine o_store 2 h8 rfl (by kernel_rfl) rfl (by simp) fun w9 h9 => ?_
            refine o_store 1 h9 rfl (by kernel_rfl) rfl (by simp) fun wa ha => ?_
            refine door_ok 2 1 ha rfl rfl K (fun w' hb => hK _ _ ⟨?_, hb⟩)
            have hge := Fx.val_ge (wh.drop (k + 1)) (Fx.val 0 (wh.take (k + 1))) (by
              rw [List.all_eq_true]; exact fun x hx => List.all_eq_true.1 hdw.1 x (List.mem_of_mem_drop hx)) (by omega)
            rw [← Fx.val_append, List.take_append_drop] at hge
            rw [hread2, if_pos (by omega)]
          · simp only [hbig, decide_false, rs]
            refine AtX.mk rfl (nextX ⟨k + 1, by omega, rfl, by omega, ?_⟩ ?_)
            · rw [hvt]; exact h8
            · show wh.length - w8.iterPos b5 < wh.length - w6.iterPos b5
              rw [hip, iterPos_obj h8 0 rfl]; omega
        · rw [o_next_end 0 ho rfl (by omega)]
          simp only [ex, rs]
          have hke : wh.take k = wh := List.take_of_length_le (by omega)
          rw [hke] at ho hv hv0
          rw [s_add (b := [48, 48, 48, 48, 48]) (by simp; omega), s_upto Tryz.underlying9 (by omega) (by simp; omega)]
          rw [show (4 : Int).toNat = 4 from rfl, Fx.four_five]
          rw [if_neg (by omega)] at hread2
          have h4d := Fx.four_all hdw.2
          have h4l := Fx.four_length part
          have hval4 := Fx.val4 (Fx.four part) (Fx.val 0 wh) h4l h4d
          refine o_range Tryz.underlying9 (ho.tail) fun b7 w7 h7 => ?_
          generalize Fx.val 0 wh = V at *
          generalize hfr : Fx.four part = fr at *
          refine loop (fun vs w' => ∃ k : Nat, k ≤ fr.length ∧ vs = [] ∧ Own w w' [.obj b7 (.stringIter ⟨fr.toArray⟩ k), .cells b2 [.int .i64 0] 23, .cells b1 [.int .i64 (Fx.val V (fr.take k))] 2])
            (fun vs w' => fr.length - w'.iterPos b7) ⟨0, by omega, rfl, h7⟩ ?_
          rintro vs w8 ⟨j, hj, rfl, ho2⟩ _
          have hip2 := iterPos_obj ho2 0 rfl
          rw [S_fix_Read_2]
          by_cases hjt : j < fr.length
          · have hdg := Fx.isDig_bd (List.all_eq_true.1 h4d fr[j] (List.getElem_mem hjt))
            have hvj0 := Fx.val_ge (fr.take j) V (by
              rw [List.all_eq_true]; exact fun x hx => List.all_eq_true.1 h4d x (List.mem_of_mem_take hx)) hv0
            have hvj1 := Fx.val_ge (fr.drop j) (Fx.val V (fr.take j)) (by
              rw [List.all_eq_true]; exact fun x hx => List.all_eq_true.1 h4d x (List.mem_of_mem_drop hx)) (by omega)
            rw [← Fx.val_append, List.take_append_drop] at hvj1
            refine o_next 0 ho2 rfl (List.getElem?_eq_getElem hjt) (by omega) fun w9 h9 => ?_
            simp only [ex, rs, l_cell (show notAgg Tryz.prog 2 = true by kernel_rfl) (h9.cell 2 rfl 0 rfl)]
            rw [wrap32_id (by omega) (by omega), c_int (show (Tryz.prog.underlying 21).isSome = true by kernel_rfl) Tryz.underlying2]
            simp only [rs]
            rw [wrap64_id (n := ((fr[j].toNat : Nat) : Int) - 48) (by omega) (by omega), wrap64_id (n := 10 * _) (by omega) (by omega), wrap64_id (by omega) (by omega)]
            refine o_store 2 h9 rfl (by kernel_rfl) rfl (by simp) fun wa ha => ?_
            refine AtX.mk rfl (nextX ⟨j + 1, by omega, rfl, ?_⟩ ?_)
            · rw [Fx.val_take V fr j hjt]; exact ha
            · show fr.length - wa.iterPos b7 < fr.length - w8.iterPos b7
              rw [hip2, iterPos_obj ha 0 rfl]; omega
          · rw [o_next_end 0 ho2 rfl (by omega)]
            simp only [ex, rs]
            have hje : fr.take j = fr := List.take_of_length_le (by omega)
            rw [hje] at ho2
            rw [s_from Tryz.underlying9 (by omega) (by simp; omega), show (4 : Int).toNat = 4 from rfl]
            have htr : Ret Tryz.prog 144 #[.string ⟨((part ++ [48, 48, 48, 48, 48]).drop 4).toArray⟩, .string ⟨#[48]⟩] w8 (fun v w' => v = .string ⟨(Fx.tr (part.drop 4)).toArray⟩ ∧ w8 = w') := by
              rw [← Fx.tr_drop]
              exact trimRight_ret _ 48 (by decide) w8 (by rw [List.length_drop]; simp; omega)
            refine c_ret htr ?_
            rintro v w9 ⟨rfl, rfl⟩
            have hmr := Fx.more_tr (part.drop 4) (Fx.minus s) (by
              rw [List.all_eq_true]; exact fun x hx => List.all_eq_true.1 hdw.2 x (List.mem_of_mem_drop hx))
            generalize Fx.tr (part.drop 4) = r at *
            generalize Fx.more (part.drop 4) (Fx.minus s) = more at *
            refine join fun J hJ => ?_
            have fin : ∀ (m : Int) (wb : World), m = Fx.mag s → Own w wb [.obj b7 (.stringIter ⟨fr.toArray⟩ j), .cells b2 [.int .i64 0] 23, .cells b1 [.int .i64 m] 2] → J [] wb := by
              intro m wb hm hob
              refine hJ _ _ fun _ => ?_
              have hm01 : m = Fx.val V fr ∨ m = Fx.val V fr + 1 := by
                rw [hm, hmag]; cases more <;> simp
              refine read3_any w wb b1 b2 m (Fx.minus s) (by omega) (by omega) hob.tail K (fun w' hb => hK _ _ ⟨?_, hb⟩)
              rw [hread2, hm]
            have wayT : more = true → DoX Tryz.prog (mLoad 2 (.pointer (some ⟨b1, 0, none⟩))) w8 (S_fix_Read_p0 (.pointer (some ⟨b1, 0, none⟩)) (.pointer (some ⟨b2, 0, none⟩)) K) fun t88 ww =>
                DoX Tryz.prog (mBin .add 2 t88 (.int .i64 1)) ww (S_fix_Read_p0 (.pointer (some ⟨b1, 0, none⟩)) (.pointer (some ⟨b2, 0, none⟩)) K) fun t89 ww =>
                DoX Tryz.prog (mStore 2 (.pointer (some ⟨b1, 0, none⟩)) t89) ww (S_fix_Read_p0 (.pointer (some ⟨b1, 0, none⟩)) (.pointer (some ⟨b2, 0, none⟩)) K) fun _ ww =>
                AtX [{ target := .fn (.func 142) #[], args := #[.pointer (some ⟨b1, 0, none⟩), .pointer (some ⟨b2, 0, none⟩)] }] [{ target := .fn (.func 142) #[], args := #[.pointer (some ⟨b1, 0, none⟩), .pointer (some ⟨b2, 0, none⟩)] }] (J [] ww) := by
              intro hmo
              rw [l_cell (show notAgg Tryz.prog 2 = true by kernel_rfl) (ho2.cell 2 rfl 0 rfl)]
              simp only [rs]
              rw [wrap64_id (by omega) (by omega)]
              refine o_store 2 ho2 rfl (by kernel_rfl) rfl (by simp) fun wb hb => ?_
              exact AtX.mk rfl (fin (Fx.val V fr + 1) wb (by rw [hmag, hmo]; rfl) hb)
            have wayF : more = false → J [] w8 := by
              intro hmo
              exact fin (Fx.val V fr) w8 (by rw [hmag, hmo]; simp) ho2
            cases hn : Fx.minus s with
            | true =>
              rw [hn] at hmr
              simp only [if_true] at hmr
              simp only [rs]
              rw [← hmr]
              cases more with
              | true => simp only [rs, g_un]; exact wayT rfl
              | false => simp only [rs, g_un]; exact AtX.mk rfl (wayF rfl)
            | false =>
              rw [hn] at hmr
              simp only [Bool.false_eq_true, if_false] at hmr
              simp only [rs]
              rw [← hmr]
              cases more with
              | true => simp only [rs, g_un]; exact wayT rfl
              | false => simp only [rs, g_un]; exact AtX.mk rfl (wayF rfl)
      have bad : Fx.form s = false → ∀ w4, Own w w4 [.cells b2 [.int .i64 0] 23, .cells b1 [.int .i64 0] 2] →
          DoX Tryz.prog (mStore 2 (.pointer (some ⟨b1, 0, none⟩)) (.int .i64 0)) w4 (S_fix_Read_p0 (.pointer (some ⟨b1, 0, none⟩)) (.pointer (some ⟨b2, 0, none⟩)) K) fun _ ww =>
          DoX Tryz.prog (mStore 23 (.pointer (some ⟨b2, 0, none⟩)) (.int .i64 3)) ww (S_fix_Read_p0 (.pointer (some ⟨b1, 0, none⟩)) (.pointer (some ⟨b2, 0, none⟩)) K) fun _ ww =>
          Leave Tryz.prog [.cell (.pointer (some ⟨b1, 0, none⟩)) 2, .cell (.pointer (some ⟨b2, 0, none⟩)) 23] K [{ target := .fn (.func 142) #[], args := #[.pointer (some ⟨b1, 0, none⟩), .pointer (some ⟨b2, 0, none⟩)] }] .returning ww := by
        intro hf w4 h4
        refine o_store 1 h4 rfl (by kernel_rfl) rfl (by simp) fun w5 h5 => ?_
        refine o_store 0 h5 rfl (by kernel_rfl) rfl (by simp) fun w6 h6 => ?_
        exact door_ok 1 0 h6 rfl rfl K (bad3 hf)
      by_cases hemp : wh ++ part = []
      · simp only [e_str, hemp, decide_true, rs, g_un]
        refine bad ?_ _ h3
        rw [hform]
        have : wh = [] ∧ part = [] := by simpa using hemp
        rw [this.1, this.2]; rfl
      · simp only [e_str, hemp, decide_false, rs, g_un]
        have hne : 0 < wh.length + part.length := by
          rw [← List.length_append]; exact List.length_pos_iff.2 hemp
        refine c_ret (pdigits_ret wh w3 (by omega)) ?_
        rintro v w4 ⟨rfl, b4⟩
        have h4 := h3.grow b4
        cases hd1 : wh.all Fx.isDig with
        | false =>
          simp only [rs, g_un]
          refine bad ?_ _ h4
          rw [hform, hd1]; rfl
        | true =>
          simp only [rs, g_un]
          refine c_ret (pdigits_ret part w4 (by omega)) ?_
          rintro v w5 ⟨rfl, b5⟩
          have h5 := h4.grow b5
          cases hd2 : part.all Fx.isDig with
          | false =>
            simp only [rs, g_un]
            refine bad ?_ _ h5
            rw [hform, hd1, hd2]; rfl
          | true =>
            simp only [rs, g_un]
            refine good ?_ _ h5
            rw [hform, hd1, hd2, decide_eq_true hne]; rfl
    refine join fun J hJ => ?_
    have goJ : ∀ l : List UInt8, l = Fx.body s → J [.string ⟨l.toArray⟩] w2 := by
      intro l hl
      refine hJ _ _ fun _ => ?_
      rw [hl, ← hmin]
      exact main
    cases hm45 : ([45] : List UInt8).isPrefixOf s with
    | true =>
      rw [hm45, Bool.true_or, if_pos rfl] at hbody
      simp only [rs, g_un]
      rw [s_from Tryz.underlying9 (by omega) (by have := hpos (by rw [hm45]; rfl); omega)]
      exact AtX.mk rfl (goJ (s.drop 1) hbody.symm)
    | false =>
      simp only [rs]
      refine c_ret (hasPrefix_ret s [43] w2) ?_
      rintro v w4 ⟨rfl, rfl⟩
      rw [hm45, Bool.false_or] at hbody
      cases hm43 : ([43] : List UInt8).isPrefixOf s with
      | true =>
        rw [hm43, if_pos rfl] at hbody
        simp only [rs]
        rw [s_from Tryz.underlying9 (by omega) (by have := hpos (by rw [hm43, Bool.or_true]); omega)]
        exact AtX.mk rfl (goJ (s.drop 1) hbody.symm)
      | false =>
        rw [hm43] at hbody
        simp only [rs]
        exact AtX.mk rfl (goJ s (by rw [hbody]; simp))
end Go.Proofs.YtgffladaenimmaaGreatDoor
/- Contracts: words of the program, Next. -/
namespace Go.Proofs.YtgffladaenimmaaGreatDoor
set_option linter.unusedVariables false
set_option linter.unusedSimpArgs false
set_option linter.defProp false
open Eng Go.RowKit

theorem trimLeft_ret (s cs : List UInt8) (w : World) (hcs : cs.length < 4294967281) (ha : cs.all (fun c => decide (c.toNat < 128)) = true) : Ret Tryz.prog 140 #[.string ⟨s.toArray⟩, .string ⟨cs.toArray⟩] w
    (fun v w' => v = .string ⟨(s.dropWhile (cs.contains ·)).toArray⟩ ∧ Below w.heap.size w w') :=
  Calls.mono (Any.strings_TrimLeft_laid Tryz.lays161 (by kernel_rfl) ⟨s.toArray⟩ ⟨cs.toArray⟩ w (by rw [str_size]; exact hcs)
    (fun j b hj => by
      have := List.all_eq_true.1 ha b (List.mem_of_getElem? hj)
      simpa using this)) (by rintro e w' ⟨rfl, h⟩; exact retK ⟨rfl, h⟩)
theorem tw_all {p : UInt8 → Bool} : ∀ l : List UInt8, l.takeWhile p = l ↔ ∀ x ∈ l, p x = true
  | [] => by simp
  | c :: t => by
    have ih := tw_all (p := p) t
    cases h : p c with
    | true => rw [List.takeWhile_cons_of_pos h]; simp [ih, h]
    | false => rw [List.takeWhile_cons_of_neg (by simp [h])]; simp [h]
theorem dw_le {p : UInt8 → Bool} (l : List UInt8) : (l.dropWhile p).length ≤ l.length := (List.dropWhile_sublist p).length_le
theorem contains1_ret (s : List UInt8) (c : UInt8) (w : World) : Ret Tryz.prog 70 #[.string ⟨s.toArray⟩, .string ⟨#[c]⟩] w (fun v w' => v = .bool (s.contains c) ∧ w = w') := by
  refine Calls.mono (Tryz.strings_Contains_one ⟨s.toArray⟩ c w) ?_
  rintro e w' ⟨rfl, rfl⟩
  refine retK ⟨?_, rfl⟩
  have e : decide (0 ≤ Lib.indexByte s c) = s.contains c := by
    rcases ix_cases c s with ⟨h1, h2, _⟩ | ⟨i, h1, h2, h3, _⟩
    · rw [h1]
      have hn : s.contains c = false := by
        rw [List.contains_eq_any_beq, List.any_eq_false]
        intro x hx
        have := (tw_all s).1 h2 x hx
        intro h; rw [beq_iff_eq] at h; subst h; simp at this
      rw [hn]; rfl
    · rw [h1]
      have hy : s.contains c = true := by
        by_cases h : c ∈ s
        · simpa using h
        · exfalso
          have h4 : s.takeWhile (fun x => x != c) = s := (tw_all s).2 fun x hx => by
            have : x ≠ c := fun e => h (e ▸ hx)
            simpa using this
          rw [h4] at h3
          have := congrArg List.length h3
          simp at this; omega
      rw [hy]; simp
  rw [← e]
theorem sgn_mem (c : UInt8) : ([43, 45] : List UInt8).contains c = Lx.sgn c := by
  simp [Lx.sgn]
theorem dig_mem (c : UInt8) : ([48, 49, 50, 51, 52, 53, 54, 55, 56, 57] : List UInt8).contains c = Lx.dig c := by
  have : ∀ n : Fin 256, ([48, 49, 50, 51, 52, 53, 54, 55, 56, 57] : List UInt8).contains (UInt8.ofNat n.val) = (decide (48 ≤ n.val) && decide (n.val ≤ 57)) := by decide +kernel
  have h := this ⟨c.toNat, c.toNat_lt⟩
  simpa [Lx.dig] using h
theorem sgn_not_dig (c : UInt8) (h : Lx.sgn c = true) : Lx.dig c = false := by
  simp only [Lx.sgn, Bool.or_eq_true, decide_eq_true_eq] at h
  rcases h with rfl | rfl <;> rfl
/-- The class of a run, as the program finds it. -/
theorem class_form (s : List UInt8) : (decide (s.length - (s.dropWhile Lx.sgn).length ≤ 1) && (decide (s.dropWhile Lx.sgn ≠ []) && (s.dropWhile Lx.sgn).all Lx.dig)) = Lx.intForm s := by
  cases s with
  | nil => rfl
  | cons c t =>
    cases hc : Lx.sgn c with
    | false =>
      have h1 : (c :: t).dropWhile Lx.sgn = c :: t := by rw [List.dropWhile_cons_of_neg (by simp [hc])]
      have h2 : Lx.unsign (c :: t) = c :: t := by simp [Lx.unsign, hc]
      rw [h1, Lx.intForm, h2]; simp
    | true =>
      have h1 : (c :: t).dropWhile Lx.sgn = t.dropWhile Lx.sgn := List.dropWhile_cons_of_pos hc
      have h2 : Lx.unsign (c :: t) = t := by simp [Lx.unsign, hc]
      rw [h1, Lx.intForm, h2]
      cases t with
      | nil => rfl
      | cons d u =>
        cases hd : Lx.sgn d with
        | false =>
          have h3 : (d :: u).dropWhile Lx.sgn = d :: u := by rw [List.dropWhile_cons_of_neg (by simp [hd])]
          rw [h3]; simp
        | true =>
          have h3 : (d :: u).dropWhile Lx.sgn = u.dropWhile Lx.sgn := List.dropWhile_cons_of_pos hd
          have h4 := dw_le (p := Lx.sgn) u
          have h5 : ¬ ((c :: d :: u).length - ((d :: u).dropWhile Lx.sgn).length ≤ 1) := by
            rw [h3]; simp only [List.length_cons]; omega
          rw [decide_eq_false h5]
          simp [sgn_not_dig d hd]
theorem intForm_drop {s : List UInt8} (h : Lx.intForm s = true) : s.dropWhile Lx.sgn = Lx.unsign s := by
  cases s with
  | nil => rfl
  | cons c t =>
    cases hc : Lx.sgn c with
    | false => rw [List.dropWhile_cons_of_neg (by simp [hc])]; simp [Lx.unsign, hc]
    | true =>
      rw [List.dropWhile_cons_of_pos hc]
      have h2 : Lx.unsign (c :: t) = t := by simp [Lx.unsign, hc]
      rw [Lx.intForm, h2] at h
      rw [h2]
      cases t with
      | nil => rfl
      | cons d u =>
        cases hd : Lx.sgn d with
        | false => rw [List.dropWhile_cons_of_neg (by simp [hd])]
        | true => simp [sgn_not_dig d hd] at h
theorem class_ret (s : List UInt8) (w : World) (hs : s.length ≤ 1099511627776) : Ret Tryz.prog 115 #[.string ⟨s.toArray⟩] w (fun v w' => v = .int .i64 (if Lx.intForm s then 1 else if s.contains 46 then 2 else 0) ∧ Below w.heap.size w w') := by
  refine ret_of fun K hK => S_lex_class_ok ?_
  unfold S_lex_class
  refine c_below (Own.start w) (trimLeft_ret s [43, 45] w (by decide) rfl) ?_
  rintro _ w1 rfl ho
  have hds : s.dropWhile (fun x => ([43, 45] : List UInt8).contains x) = s.dropWhile Lx.sgn := by
    congr 1; funext c; exact sgn_mem c
  rw [hds, s_len Tryz.underlying9]
  rw [s_len Tryz.underlying9]
  have hle := dw_le (p := Lx.sgn) s
  have hcf := class_form s
  have tl : ∀ w2, Own w w2 [] → Lx.intForm s = false → CallX Tryz.prog 70 #[.string ⟨s.toArray⟩, (.string ⟨#[46]⟩)] w2 (pk K) fun t22 w =>
      IfX t22 (K (.returned (.int .i64 2)) w) (K (.returned (.int .i64 0)) w) := by
    intro w2 ho hi
    refine c_eq (contains1_ret s 46 w2) ?_
    cases hc : s.contains 46 with
    | true => simp only [rs]; exact hK _ _ ⟨by rw [if_neg (by rw [hi]; decide), if_pos hc], ho.done⟩
    | false => simp only [rs]; exact hK _ _ ⟨by rw [if_neg (by rw [hi]; decide), if_neg (by rw [hc]; decide)], ho.done⟩
  simp only [rs]
  rw [wrap64_id (by omega) (by omega)]
  by_cases h1 : (s.length : Int) - ((s.dropWhile Lx.sgn).length : Int) ≤ 1
  · have h1' : s.length - (s.dropWhile Lx.sgn).length ≤ 1 := by omega
    rw [decide_eq_true h1'] at hcf
    simp only [h1, decide_true, rs]
    by_cases h2 : s.dropWhile Lx.sgn ≠ []
    · rw [decide_eq_true h2] at hcf
      rw [show (⟨#[]⟩ : ByteArray) = ⟨([] : List UInt8).toArray⟩ from rfl]
      simp only [rs, decide_eq_true h2]
      refine c_below ho (trim_ret (s.dropWhile Lx.sgn) [48, 49, 50, 51, 52, 53, 54, 55, 56, 57] w1 (by omega) (by decide) rfl) ?_
      rintro _ w2 rfl ho
      have ht : decide (Lib.trimS (s.dropWhile Lx.sgn) [48, 49, 50, 51, 52, 53, 54, 55, 56, 57] = []) = (s.dropWhile Lx.sgn).all Lx.dig := by
        have hp : Fx.isDig = Lx.dig := by funext c; rw [← dig_mem c, ← digs_contains c]
        have this := trimS_nil (s.dropWhile Lx.sgn)
        rw [hp] at this
        cases hall : (s.dropWhile Lx.sgn).all Lx.dig with
        | true => rw [decide_eq_true (this.2 hall)]
        | false => rw [decide_eq_false (fun e => by rw [this.1 e] at hall; cases hall)]
      simp only [rs, ht]
      rw [Bool.true_and, Bool.true_and] at hcf
      rw [hcf]
      cases hi : Lx.intForm s with
      | true => simp only [i_t]; exact hK _ _ ⟨by rw [if_pos hi], ho.done⟩
      | false => simp only [i_f]; exact tl w2 ho hi
    · rw [decide_eq_false h2, Bool.false_and, Bool.and_false] at hcf
      rw [show (⟨#[]⟩ : ByteArray) = ⟨([] : List UInt8).toArray⟩ from rfl]
      simp only [rs, decide_eq_false h2, g_un]
      exact tl w1 ho hcf.symm
  · have h1' : ¬ (s.length - (s.dropWhile Lx.sgn).length ≤ 1) := by omega
    rw [decide_eq_false h1', Bool.false_and] at hcf
    simp only [h1, decide_false, rs, g_un]
    exact tl w1 ho hcf.symm
theorem val_snoc (c : UInt8) (l : List UInt8) (n : Nat) : Lx.val n (l ++ [c]) = 10 * Lx.val n l + (c.toNat - 48) := by
  unfold Lx.val
  rw [List.foldl_append, List.foldl_cons, List.foldl_nil]
theorem lwhole_ret (s : List UInt8) (w : World) (hs : s.length ≤ 1099511627776) (hf : Lx.intForm s = true) : Ret Tryz.prog 116 #[.string ⟨s.toArray⟩] w (fun v w' => v = pair (Lx.whole s) ∧ Below w.heap.size w w') := by
  refine ret_of fun K hK => S_lex_whole_ok ?_
  unfold S_lex_whole
  refine c_below (Own.start w) (trimLeft_ret s [43, 45] w (by decide) rfl) ?_
  rintro _ w1 rfl ho
  have hds : s.dropWhile (fun x => ([43, 45] : List UInt8).contains x) = Lx.unsign s := by
    rw [← intForm_drop hf]; congr 1; funext c; exact sgn_mem c
  rw [hds]
  have hall : (Lx.unsign s).all Lx.dig = true := by
    rw [Lx.intForm, Bool.and_eq_true] at hf; exact hf.2
  have hne : s ≠ [] := by rintro rfl; simp [Lx.intForm, Lx.unsign] at hf
  have hlen : (Lx.unsign s).length ≤ s.length := by rw [← intForm_drop hf]; exact dw_le s
  refine o_range Tryz.underlying9 ho fun b w2 ho => ?_
  refine loop (fun vs w' => ∃ (i : Nat), vs = [.int .i64 ((min (Lx.val 0 ((Lx.unsign s).take i)) 2147483648 : Nat) : Int)] ∧ i ≤ (Lx.unsign s).length ∧ Own w w' [.obj b (.stringIter ⟨(Lx.unsign s).toArray⟩ i)])
    (fun _ w' => match w'.heap[b]? with | some (.stringIter _ i) => (Lx.unsign s).length - i | _ => 0) ⟨0, rfl, by omega, ho⟩ ?_
  rintro vs w3 ⟨i, rfl, hi, ho⟩ _
  simp only [S_lex_whole_0, gd]
  by_cases hlt : i < (Lx.unsign s).length
  · have hdig := List.all_eq_true.1 hall _ (List.getElem_mem hlt)
    have hd2 : 48 ≤ (Lx.unsign s)[i].toNat ∧ (Lx.unsign s)[i].toNat ≤ 57 := by simpa [Lx.dig] using hdig
    have h0 : w3.heap[b]? = some (.stringIter ⟨(Lx.unsign s).toArray⟩ i) := ho.at_ 0 rfl
    refine o_next 0 ho rfl (List.getElem?_eq_getElem hlt) (by omega) fun w4 ho => ?_
    have h1 : w4.heap[b]? = some (.stringIter ⟨(Lx.unsign s).toArray⟩ (i + 1)) := ho.at_ 0 rfl
    simp only [ex, i_t, rs]
    rw [wrap64_id (by omega) (by omega), wrap32_id (by omega) (by omega), c_int (show (Tryz.prog.underlying 21).isSome = true by kernel_rfl) Tryz.underlying2, wrap64_id (n := ((Lx.unsign s)[i].toNat : Int) - 48) (by omega) (by omega)]
    simp only [rs]
    rw [wrap64_id (by omega) (by omega), m_min]
    have e : min (10 * ((min (Lx.val 0 ((Lx.unsign s).take i)) 2147483648 : Nat) : Int) + (((Lx.unsign s)[i].toNat : Int) - 48)) 2147483648 = ((min (Lx.val 0 ((Lx.unsign s).take (i + 1))) 2147483648 : Nat) : Int) := by
      rw [List.take_succ_eq_append_getElem hlt, val_snoc]; omega
    rw [e]
    exact nextX ⟨i + 1, rfl, by omega, ho⟩ (by simp only [h0, h1]; omega)
  · rw [o_next_end 0 ho rfl (by omega)]
    have hi2 : i = (Lx.unsign s).length := by omega
    simp only [ex, i_f, rs, hi2, List.take_length]
    by_cases hbig : 2147483647 < Lx.val 0 (Lx.unsign s)
    · have h1 : (2147483647 : Int) < ((min (Lx.val 0 (Lx.unsign s)) 2147483648 : Nat) : Int) := by omega
      simp only [h1, decide_true, i_t]
      exact hK _ _ ⟨by rw [Lx.whole, if_pos hbig], ho.done⟩
    · have h1 : ¬ (2147483647 : Int) < ((min (Lx.val 0 (Lx.unsign s)) 2147483648 : Nat) : Int) := by omega
      simp only [h1, decide_false, i_f]
      refine join fun J hJ => ?_
      obtain ⟨c, t, rfl⟩ : ∃ c t, s = c :: t := by cases s with | nil => exact absurd rfl hne | cons c t => exact ⟨c, t, rfl⟩
      rw [s_ix (c := c) Tryz.underlying9 (by omega) rfl]
      have e1 := u8d c 45 45 rfl
      rw [Nat.min_eq_left (by omega)]
      by_cases h45 : c = 45
      · simp only [rs, e1, decide_eq_true h45]
        refine hJ _ _ fun _ => ?_
        simp only [S_lex_whole_1, gd]
        rw [wrap64_id (by omega) (by omega)]
        exact hK _ _ ⟨by rw [Lx.whole, if_neg hbig, if_pos (by rw [h45]; rfl)], ho.done⟩
      · simp only [rs, e1, decide_eq_false h45]
        refine hJ _ _ fun _ => ?_
        simp only [S_lex_whole_1, gd]
        exact hK _ _ ⟨by rw [Lx.whole, if_neg hbig, if_neg (by simpa using h45)], ho.done⟩
theorem word_ret (s : List UInt8) (a : Nat) (w : World) (hs : s.length ≤ 1099511627776) (ha : a ≤ s.length) : Ret Tryz.prog 84 #[cutV s a] w (fun v w' => v = tokR (Lx.word s a) ∧ Below w.heap.size w w') := by
  refine ret_of fun K hK => S_lex_cutter_word_ok ?_
  unfold S_lex_cutter_word
  refine o_cut s a (Own.start w) fun b1 w1 ho => ?_
  refine o_tok ho fun b w2 ho => ?_
  simp only [cut_v ho 1 rfl, fa_c1, cut_a ho 1 rfl]
  refine c_below ho (run_ret s a a w2 hs ha) ?_
  rintro _ w3 rfl ho
  have hto := Lx.run_le s ha
  have hto2 : a ≤ Lx.run s a := by unfold Lx.run; omega
  simp only [fa_c0, fa_c1, cut_a ho 1 rfl, cut_s ho 1 rfl]
  rw [s_cut rfl rfl hto2 hto]
  have hcl : (Lx.cut s a (Lx.run s a)).length ≤ s.length := by rw [cut_length hto]; omega
  have hW : Lx.word s a = Lx.wordT (Lx.cut s a (Lx.run s a)) a (Lx.run s a) := rfl
  generalize hT : Lx.cut s a (Lx.run s a) = t at *
  generalize Lx.run s a = r at *
  refine join fun J hJ => ?_
  refine c_below ho (class_ret t w3 (by omega)) ?_
  rintro _ w4 rfl ho
  have fin : ∀ w5 n, Own w w5 [tokE b Lx.none_, cutE b1 s a] → Lx.wordT t a r = Lx.told 5 a r t 127 → J [.int .i64 n] w5 := by
    intro w5 n ho he
    refine hJ _ _ fun _ => ?_
    simp only [S_lex_cutter_word_0, cut_v ho 1 rfl]
    exact tok_tail 0 ho rfl (told_ret s a 5 r t 127 _) fun w' hb => hK _ _ ⟨by rw [hW, he], hb⟩
  by_cases hi : Lx.intForm t = true
  · rw [if_pos hi]
    simp only [rs, decide_true]
    refine c_below ho (lwhole_ret t w4 (by omega) hi) ?_
    rintro _ w5 rfl ho
    simp only [pair, ex, rs]
    by_cases he : (Lx.whole t).2 ≠ 0
    · simp only [decide_eq_true he, i_t]
      exact tok_tail 0 ho rfl (refused_ret _ _) fun w' hb => hK _ _ ⟨by rw [hW, Lx.wordT, if_pos hi, if_pos he], hb⟩
    · simp only [decide_eq_false he, i_f, fa_c1, cut_a ho 1 rfl, m_tokn]
      exact tok_put 0 ho rfl fun w' ho => hK _ _ ⟨by rw [hW, Lx.wordT, if_pos hi, if_neg he], ho.done⟩
  rw [if_neg hi]
  by_cases hp : t.contains 46 = true
  · rw [if_pos hp]
    simp only [rs, decide_true, show ¬ ((2 : Int) = 1) by decide, decide_false]
    refine c_below ho (pread_ret t w4 (by omega)) ?_
    rintro _ w5 rfl ho
    simp only [pair, ex, rs]
    by_cases he : (Fx.read t).2 = 0
    · simp only [decide_eq_true he, i_t, fa_c1, cut_a ho 1 rfl, m_tokn]
      exact tok_put 0 ho rfl fun w' ho => hK _ _ ⟨by rw [hW, Lx.wordT, if_neg hi, if_pos ⟨hp, he⟩], ho.done⟩
    simp only [decide_eq_false he, i_f]
    by_cases he2 : (Fx.read t).2 = 2
    · simp only [he2, decide_true, i_t]
      exact tok_tail 0 ho rfl (refused_ret _ _) fun w' hb => hK _ _ ⟨by rw [hW, Lx.wordT, if_neg hi, if_neg (fun h => he h.2), if_pos ⟨hp, he2⟩], hb⟩
    · simp only [he2, decide_false, i_f]
      exact fin _ _ ho (by rw [Lx.wordT, if_neg hi, if_neg (fun h => he h.2), if_neg (fun h => he2 h.2)])
  · rw [if_neg hp]
    simp only [rs, show ¬ ((0 : Int) = 1) by decide, show ¬ ((0 : Int) = 2) by decide, decide_false]
    exact fin _ _ ho (by rw [Lx.wordT, if_neg hi, if_neg (fun h => hp h.1), if_neg (fun h => hp h.1)])
end Go.Proofs.YtgffladaenimmaaGreatDoor
/- Contract: lex.Next. -/
namespace Go.Proofs.YtgffladaenimmaaGreatDoor
set_option linter.unusedVariables false
set_option linter.unusedSimpArgs false
set_option linter.defProp false
open Eng Go.RowKit

theorem begins_one (s : List UInt8) (c : UInt8) (k : Nat) (hk : k ≤ s.length) : begins s [c] (k : Int) = decide ((s.drop k).head? = some c) := by
  unfold begins
  rw [Int.toNat_natCast, decide_eq_true (by omega), decide_eq_true (by omega)]
  cases hd : s.drop k with
  | nil => simp
  | cons d t =>
    by_cases h : d = c
    · subst h; simp [List.isPrefixOf]
    · have h11 : (c == d) = false := by simpa using fun e : c = d => h e.symm
      have h12 : ¬ (some d = some c) := by simpa using h
      rw [List.head?_cons, decide_eq_false h12]
      simp [List.isPrefixOf, h11]
theorem m_cut {w : World} {PK : List PanicEntry → World → Prop} {K : Value → World → Prop} {s : List UInt8} {a : Int} : DoX Tryz.prog (mBuild 107 #[(0, .string ⟨s.toArray⟩), (1, .int .i64 a)]) w PK K = K (cutV s a) w := do_eq (by kernel_rfl)
theorem next_ret (s : List UInt8) (i : Int) (w : World) (hs : s.length ≤ 1099511627776) : Ret Tryz.prog 44 #[.string ⟨s.toArray⟩, .int .i64 i] w (fun v w' => v = tokR (Lx.next s i) ∧ Below w.heap.size w w') := by
  refine ret_of fun K hK => S_lex_Next_ok ?_
  unfold S_lex_Next
  refine o_tok (Own.start w) fun b w1 ho => ?_
  have out : (i < 0 ∨ (s.length : Int) < i) → CallX Tryz.prog 78 #[(.int .i64 1)] w1 (pk K) fun t42 w =>
      DoX Tryz.prog (mExt t42 0) w (pk K) fun t43 w =>
      DoX Tryz.prog (mExt t42 1) w (pk K) fun t44 w =>
      DoX Tryz.prog (mStore 63 (.pointer (some ⟨b, 0, none⟩)) t43) w (pk K) fun _ w =>
      RetX Tryz.prog [.cell (.pointer (some ⟨b, 0, none⟩)) 63, .val t44] w K := fun h =>
    tok_tail 0 ho rfl (refused_ret 1 _) fun w' hb => hK _ _ ⟨by rw [Lx.next, if_pos h], hb⟩
  by_cases h1 : i < 0
  · simp only [rs, h1, decide_true, g_un]
    exact out (.inl h1)
  simp only [rs, h1, decide_false, s_len Tryz.underlying9]
  by_cases h2 : (s.length : Int) < i
  · simp only [rs, h2, decide_true]
    exact out (.inr h2)
  simp only [rs, h2, decide_false]
  have hsk : Lx.skipI s i = ((Lx.skip s i.toNat : Nat) : Int) := by rw [Lx.skipI, if_neg (by omega)]
  have hN : Lx.next s i = Lx.token s (Lx.skip s i.toNat) := by rw [Lx.next, if_neg (by omega)]
  have hle := Lx.skip_le s (k := i.toNat) (by omega)
  refine c_eq (skip_ret s i w1 (by omega)) ?_
  rw [hsk]
  generalize Lx.skip s i.toNat = a at *
  rw [m_cut]
  refine o_new (fun b => .pointer (some ⟨b, 0, none⟩)) (cutC [] 0) 107 (fun _ => by kernel_rfl) ho fun b1 w2 ho => ?_
  refine o_put 0 ho rfl (new := cutC s a) (show _ = some 2 by kernel_rfl) (by
    intro v hv
    simp only [cutC, List.mem_cons, List.not_mem_nil, or_false] at hv
    rcases hv with rfl | rfl <;> rfl) rfl fun w3 ho => ?_
  have ho : Own w w3 [cutE b1 s a, tokE b Lx.none_] := ho
  simp only [fa_c1, cut_a ho 0 rfl, s_len Tryz.underlying9, rs]
  by_cases hend : (a : Int) = (s.length : Int)
  · simp only [hend, decide_true, i_t]
    rw [← hend]
    simp only [cut_a ho 0 rfl, m_tok2]
    refine tok_put 1 ho rfl fun w' ho => hK _ _ ⟨?_, ho.done⟩
    rw [hN, Lx.token, List.drop_eq_nil_of_le (by omega)]
  have ha : a < s.length := by omega
  have hd := Lx.drop_cons ha
  simp only [hend, decide_false, i_f]
  have f1 : fOff Tryz.prog 107 1 = some 1 := by kernel_rfl
  have hw1 : IntKind.wrap .i64 ((a : Int) + 1) = ((a + 1 : Nat) : Int) := by rw [wrap64_id (by omega) (by omega)]; omega
  refine quiet (q_do _ (fun _ => run_fa f1) (q_at _ (fun _ hb => cutr_a (ho.grow hb) 0 rfl) (q_do _ (fun _ => run_fa f1) (q_at _ (fun _ hb => cutr_a (ho.grow hb) 0 rfl) (q_do _ (fun _ => by rw [r_add, hw1]) ?_)))))
  refine q_do (.string ⟨([s[a]] : List UInt8).toArray⟩) (fun w => ?_) ?_
  · have := @run_s_slice Tryz.prog w 9 s .i64 .i64 (a : Int) ((a + 1 : Nat) : Int) Tryz.underlying9 (by omega) (by omega) (by omega)
    rw [this, show (s.drop (a : Int).toNat).take (((a + 1 : Nat) : Int).toNat - (a : Int).toNat) = Lx.cut s a (a + 1) from rfl, cut_one ha]
  refine q_do _ (fun _ => run_fa f1) (q_at _ (fun _ hb => cutr_a (ho.grow hb) 0 rfl) (q_do _ (fun _ => by rw [r_add, hw1]) ?_))
  refine q_call (.bool (decide ((s.drop (a + 1)).head? = some s[a]))) (fun w hb => ret_same ?_ hb) ?_
  · rw [← begins_one s s[a] (a + 1) (by omega)]; exact begins_ret s [s[a]] _ w
  intro w4 hb
  have ho := ho.grow hb
  simp only [fa_c1, cut_a ho 0 rfl, s_at ha]
  have hT : Lx.next s i = if s[a] = 91 ∨ s[a] = 93 ∨ s[a] = 123 ∨ s[a] = 125 then Lx.mark s a 1
    else if s[a] = 60 then (if (s.drop (a + 1)).head? = some s[a] then Lx.mark s a 2 else Lx.hex s a)
    else if s[a] = 62 then (if (s.drop (a + 1)).head? = some s[a] then Lx.mark s a 2 else Lx.refused 3)
    else if s[a] = 47 then Lx.name s a
    else if s[a] = 40 then Lx.text s a
    else if s[a] = 41 then Lx.refused 3
    else Lx.word s a := by rw [hN, Lx.token, hd]
  refine join fun J hJ => ?_
  have rest : ∀ b : Bool, (b = true ↔ (s[a] = 91 ∨ s[a] = 93 ∨ s[a] = 123 ∨ s[a] = 125)) → J [.bool b] w4 := by
    intro bb hbb
    refine hJ _ _ fun _ => ?_
    simp only [S_lex_Next_0, gd]
    cases bb with
    | true =>
      simp only [i_t, cut_v ho 0 rfl]
      exact tok_tail 1 ho rfl (mark_ret s a 1 _ hs (by omega)) fun w' hb => hK _ _ ⟨by rw [hT, if_pos (hbb.1 rfl)], hb⟩
    | false =>
      have hn : ¬ (s[a] = 91 ∨ s[a] = 93 ∨ s[a] = 123 ∨ s[a] = 125) := fun h => by have := hbb.2 h; cases this
      rw [if_neg hn] at hT
      have two : (s.drop (a + 1)).head? = some s[a] → a + 2 ≤ s.length := by
        intro h
        cases hdd : s.drop (a + 1) with
        | nil => rw [hdd] at h; cases h
        | cons x t =>
          have := congrArg List.length hdd
          simp at this; omega
      have q1 := u8d s[a] 60 60 rfl
      have q2 := u8d s[a] 62 62 rfl
      have q3 := u8d s[a] 47 47 rfl
      have q4 := u8d s[a] 40 40 rfl
      have q5 := u8d s[a] 41 41 rfl
      by_cases g1 : s[a] = 60
      · simp only [rs, q1, decide_eq_true g1]
        rw [if_pos g1] at hT
        by_cases g : (s.drop (a + 1)).head? = some s[a]
        · simp only [decide_eq_true g, i_t, cut_v ho 0 rfl]
          exact tok_tail 1 ho rfl (mark_ret s a 2 _ hs (two g)) fun w' hb => hK _ _ ⟨by rw [hT, if_pos g], hb⟩
        · simp only [decide_eq_false g, i_f, cut_v ho 0 rfl]
          exact tok_tail 1 ho rfl (cut_hex_ret s a _ hs ha) fun w' hb => hK _ _ ⟨by rw [hT, if_neg g], hb⟩
      rw [if_neg g1] at hT
      simp only [rs, q1, decide_eq_false g1]
      by_cases g2 : s[a] = 62
      · simp only [rs, q2, decide_eq_true g2]
        rw [if_pos g2] at hT
        by_cases g : (s.drop (a + 1)).head? = some s[a]
        · simp only [decide_eq_true g, i_t, cut_v ho 0 rfl]
          exact tok_tail 1 ho rfl (mark_ret s a 2 _ hs (two g)) fun w' hb => hK _ _ ⟨by rw [hT, if_pos g], hb⟩
        · simp only [decide_eq_false g, i_f]
          exact tok_tail 1 ho rfl (refused_ret 3 _) fun w' hb => hK _ _ ⟨by rw [hT, if_neg g], hb⟩
      rw [if_neg g2] at hT
      simp only [rs, q2, decide_eq_false g2]
      by_cases g3 : s[a] = 47
      · simp only [rs, q3, decide_eq_true g3, cut_v ho 0 rfl]
        exact tok_tail 1 ho rfl (name_ret s a _ hs ha) fun w' hb => hK _ _ ⟨by rw [hT, if_pos g3], hb⟩
      rw [if_neg g3] at hT
      simp only [rs, q3, decide_eq_false g3]
      by_cases g4 : s[a] = 40
      · simp only [rs, q4, decide_eq_true g4, cut_v ho 0 rfl]
        exact tok_tail 1 ho rfl (text_ret s a _ hs ha) fun w' hb => hK _ _ ⟨by rw [hT, if_pos g4], hb⟩
      rw [if_neg g4] at hT
      simp only [rs, q4, decide_eq_false g4]
      by_cases g5 : s[a] = 41
      · simp only [rs, q5, decide_eq_true g5]
        exact tok_tail 1 ho rfl (refused_ret 3 _) fun w' hb => hK _ _ ⟨by rw [hT, if_pos g5], hb⟩
      rw [if_neg g5] at hT
      simp only [rs, q5, decide_eq_false g5, cut_v ho 0 rfl]
      exact tok_tail 1 ho rfl (word_ret s a _ hs (by omega)) fun w' hb => hK _ _ ⟨by rw [hT], hb⟩
  have p1 := u8d s[a] 91 91 rfl
  have p2 := u8d s[a] 93 93 rfl
  have p3 := u8d s[a] 123 123 rfl
  have p4 := u8d s[a] 125 125 rfl
  by_cases g1 : s[a] = 91
  · simp only [rs, p1, decide_eq_true g1]; exact rest true (by simp [g1])
  simp only [rs, p1, decide_eq_false g1]
  by_cases g2 : s[a] = 93
  · simp only [rs, p2, decide_eq_true g2]; exact rest true (by simp [g2])
  simp only [rs, p2, decide_eq_false g2]
  by_cases g3 : s[a] = 123
  · simp only [rs, p3, decide_eq_true g3]; exact rest true (by simp [g3])
  simp only [rs, p3, decide_eq_false g3]
  by_cases g4 : s[a] = 125
  · simp only [rs, p4, decide_eq_true g4]; exact rest true (by simp [g4])
  simp only [rs, p4, decide_eq_false g4]
  exact rest false (by simp [g1, g2, g3, g4])
end Go.Proofs.YtgffladaenimmaaGreatDoor
/- Code in continuation form, by program (gen.py): 20 functions. -/
namespace Go.Proofs.YtgffladaenimmaaGreatDoor
set_option linter.unusedVariables false
set_option linter.unusedSimpArgs false
set_option linter.defProp false
set_option linter.unusedVariables false
set_option maxRecDepth 20000
open Eng

/- foliantref03.Run -/
def S_foliantref03_Run_0 (t0 t1 : Value) (w : World) (N1 : List Value → World → Prop) (K : Ending → World → Prop) : Prop :=
 DoX Tryz.prog (mB .len #[9] 3 #[false] #[t0]) w (pk K) fun t7 w =>
 DoX Tryz.prog (mBin .lss 3 t1 t7) w (pk K) fun t8 w =>
 GDo t8 true (fun E => E t0 w) w fun t10 w =>
 GDo t8 true (fun E => E t1 w) w fun t11 w =>
 GDo t8 true (fun E => DoX Tryz.prog (mIx 9 t10 t11) w (pk K) E) w fun t12 w =>
 GDo t8 true (fun E => CallX Tryz.prog 146 #[t12] w (pk K) E) w fun t13 w =>
 DoX Tryz.prog (mPick t8 t13 (.bool false)) w (pk K) fun t14 w =>
 IfX t14 (DoX Tryz.prog (mBin .add 3 t1 (.int .i64 1)) w (pk K) fun t16 w =>
 N1 [t16] w) (K (.returned t1) w)
def S_foliantref03_Run (t0 t1 : Value) (w : World) (K : Ending → World → Prop) : Prop :=
 LoopX [t1] w (fun vs1 w N1 => ∀ _ : Sg, S_foliantref03_Run_0 t0 (vs1.getD 0 undef) w N1 K)
theorem S_foliantref03_Run_eq (t0 t1 : Value) (w : World) (K : Ending → World → Prop) : wpX Tryz.prog 18 [] [(1, [1])] none (bodyOf Tryz.f119) (topQ Tryz.prog [.tmp 4] K) (startX [t0, t1]) [] w = S_foliantref03_Run t0 t1 w K := by kernel_rfl
theorem S_foliantref03_Run_ok {t0 t1 : Value} {w : World} {K : Ending → World → Prop} (h : S_foliantref03_Run t0 t1 w K) : Calls Tryz.prog 119 #[t0, t1] w K :=
  calls_of_wpX Tryz.func119 rfl rfl rfl rfl (Eq.mpr (S_foliantref03_Run_eq t0 t1 w K) h)

/- foliantref03.Integer -/
def S_foliantref03_Integer_1 (t0 t3 : Value) (w : World) (N2 : List Value → World → Prop) (K : Ending → World → Prop) : Prop :=
 DoX Tryz.prog (mB .len #[9] 3 #[false] #[t0]) w (pk K) fun t20 w =>
 DoX Tryz.prog (mBin .lss 3 t3 t20) w (pk K) fun t21 w =>
 IfX t21 (DoX Tryz.prog (mIx 9 t0 t3) w (pk K) fun t26 w =>
 DoX Tryz.prog (mBin .lss 5 t26 (.int .u8 48)) w (pk K) fun t27 w =>
 GDo t27 false (fun E => E t0 w) w fun t29 w =>
 GDo t27 false (fun E => E t3 w) w fun t30 w =>
 GDo t27 false (fun E => DoX Tryz.prog (mIx 9 t29 t30) w (pk K) E) w fun t31 w =>
 GDo t27 false (fun E => DoX Tryz.prog (mBin .gtr 5 t31 (.int .u8 57)) w (pk K) E) w fun t32 w =>
 DoX Tryz.prog (mPick t27 (.bool true) t32) w (pk K) fun t33 w =>
 IfX t33 (K (.returned (.bool false)) w) (DoX Tryz.prog (mBin .add 3 t3 (.int .i64 1)) w (pk K) fun t23 w =>
 N2 [t23] w)) (DoX Tryz.prog (mEq .neq 9 (.tmp 34) (.const (.string ⟨#[]⟩)) t0 (.string ⟨#[]⟩)) w (pk K) fun t35 w =>
 K (.returned t35) w)
def S_foliantref03_Integer_0 (t0 : Value) (w : World) (K : Ending → World → Prop) : Prop :=
 LoopX [(.int .i64 0)] w (fun vs2 w N2 => ∀ _ : Sg, S_foliantref03_Integer_1 t0 (vs2.getD 0 undef) w N2 K)
def S_foliantref03_Integer (t0 : Value) (w : World) (K : Ending → World → Prop) : Prop :=
 JoinX (fun J1 =>
 DoX Tryz.prog (mEq .neq 9 (.tmp 4) (.const (.string ⟨#[]⟩)) t0 (.string ⟨#[]⟩)) w (pk K) fun t5 w =>
 GDo t5 true (fun E => E t0 w) w fun t7 w =>
 GDo t5 true (fun E => DoX Tryz.prog (mIx 9 t7 (.int .i64 0)) w (pk K) E) w fun t8 w =>
 GDo t5 true (fun E => DoX Tryz.prog (mEq .eql 5 (.tmp 8) (.const (.int .u8 43)) t8 (.int .u8 43)) w (pk K) E) w fun t9 w =>
 GDo t5 true (fun E => E t9 w) w fun t10 w =>
 GDo t10 false (fun E => E t0 w) w fun t11 w =>
 GDo t10 false (fun E => DoX Tryz.prog (mIx 9 t11 (.int .i64 0)) w (pk K) E) w fun t12 w =>
 GDo t10 false (fun E => DoX Tryz.prog (mEq .eql 5 (.tmp 12) (.const (.int .u8 45)) t12 (.int .u8 45)) w (pk K) E) w fun t13 w =>
 GDo t5 true (fun E => DoX Tryz.prog (mPick t10 (.bool true) t13) w (pk K) E) w fun t14 w =>
 DoX Tryz.prog (mPick t5 t14 (.bool false)) w (pk K) fun t15 w =>
 IfX t15 (DoX Tryz.prog (mSlice 9 t0 (some (.int .i64 1)) none none) w (pk K) fun t17 w =>
 J1 [t17] w) (J1 [t0] w)) (fun vs1 w => ∀ _ : Sg, S_foliantref03_Integer_0 (vs1.getD 0 undef) w K)
theorem S_foliantref03_Integer_eq (t0 : Value) (w : World) (K : Ending → World → Prop) : wpX Tryz.prog 36 [(3, [0])] [(4, [3])] none (bodyOf Tryz.f151) (topQ Tryz.prog [.tmp 2] K) (startX [t0]) [] w = S_foliantref03_Integer t0 w K := by kernel_rfl
theorem S_foliantref03_Integer_ok {t0 : Value} {w : World} {K : Ending → World → Prop} (h : S_foliantref03_Integer t0 w K) : Calls Tryz.prog 151 #[t0] w K :=
  calls_of_wpX Tryz.func151 rfl rfl rfl rfl (Eq.mpr (S_foliantref03_Integer_eq t0 w K) h)

/- foliantref03.whole -/
def S_foliantref03_whole_2 (t4 : Value) (w : World) (K : Ending → World → Prop) : Prop :=
 K (.returned (.tuple #[t4, (.int .i64 0)])) w
def S_foliantref03_whole_1 (t4 t5 : Value) (w : World) (N1 : List Value → World → Prop) (K : Ending → World → Prop) : Prop :=
 DoX Tryz.prog (mBin .add 3 t5 (.int .i64 1)) w (pk K) fun t11 w =>
 N1 [t4, t11] w
def S_foliantref03_whole_0 (t0 t4 t5 : Value) (w : World) (N1 : List Value → World → Prop) (K : Ending → World → Prop) : Prop :=
 DoX Tryz.prog (mB .len #[9] 3 #[false] #[t0]) w (pk K) fun t8 w =>
 DoX Tryz.prog (mBin .lss 3 t5 t8) w (pk K) fun t9 w =>
 IfX t9 (JoinX (fun J2 =>
 DoX Tryz.prog (mIx 9 t0 t5) w (pk K) fun t14 w =>
 DoX Tryz.prog (mEq .eql 5 (.tmp 14) (.const (.int .u8 43)) t14 (.int .u8 43)) w (pk K) fun t15 w =>
 GDo t15 false (fun E => E t0 w) w fun t17 w =>
 GDo t15 false (fun E => E t5 w) w fun t18 w =>
 GDo t15 false (fun E => DoX Tryz.prog (mIx 9 t17 t18) w (pk K) E) w fun t19 w =>
 GDo t15 false (fun E => DoX Tryz.prog (mEq .eql 5 (.tmp 19) (.const (.int .u8 45)) t19 (.int .u8 45)) w (pk K) E) w fun t20 w =>
 DoX Tryz.prog (mPick t15 (.bool true) t20) w (pk K) fun t21 w =>
 IfX t21 (J2 [t4] w) (DoX Tryz.prog (mBin .mul 2 (.int .i64 10) t4) w (pk K) fun t23 w =>
 DoX Tryz.prog (mIx 9 t0 t5) w (pk K) fun t26 w =>
 DoX Tryz.prog (mConv 5 2 t26) w (pk K) fun t27 w =>
 DoX Tryz.prog (mBin .add 2 t23 t27) w (pk K) fun t28 w =>
 DoX Tryz.prog (mBin .sub 2 t28 (.int .i64 48)) w (pk K) fun t29 w =>
 DoX Tryz.prog (mBin .gtr 2 t29 (.int .i64 2147483647)) w (pk K) fun t31 w =>
 IfX t31 (K (.returned (.tuple #[(.int .i64 0), (.int .i64 2)])) w) (J2 [t29] w))) (fun vs2 w => ∀ _ : Sg, S_foliantref03_whole_1 (vs2.getD 0 undef) t5 w N1 K)) (JoinX (fun J3 =>
 DoX Tryz.prog (mIx 9 t0 (.int .i64 0)) w (pk K) fun t33 w =>
 DoX Tryz.prog (mEq .eql 5 (.tmp 33) (.const (.int .u8 45)) t33 (.int .u8 45)) w (pk K) fun t34 w =>
 IfX t34 (DoX Tryz.prog (mUn .neg t4) w (pk K) fun t36 w =>
 J3 [t36] w) (J3 [t4] w)) (fun vs3 w => ∀ _ : Sg, S_foliantref03_whole_2 (vs3.getD 0 undef) w K))
def S_foliantref03_whole (t0 : Value) (w : World) (K : Ending → World → Prop) : Prop :=
 LoopX [(.int .i64 0), (.int .i64 0)] w (fun vs1 w N1 => ∀ _ : Sg, S_foliantref03_whole_0 t0 (vs1.getD 0 undef) (vs1.getD 1 undef) w N1 K)
theorem S_foliantref03_whole_eq (t0 : Value) (w : World) (K : Ending → World → Prop) : wpX Tryz.prog 38 [(4, [4]), (11, [4])] [(3, [4, 5])] none (bodyOf Tryz.f152) (topQ Tryz.prog [.tmp 2, .tmp 3] K) (startX [t0]) [] w = S_foliantref03_whole t0 w K := by kernel_rfl
theorem S_foliantref03_whole_ok {t0 : Value} {w : World} {K : Ending → World → Prop} (h : S_foliantref03_whole t0 w K) : Calls Tryz.prog 152 #[t0] w K :=
  calls_of_wpX Tryz.func152 rfl rfl rfl rfl (Eq.mpr (S_foliantref03_whole_eq t0 w K) h)

/- foliantref03.point -/
def S_foliantref03_point_0 (t0 t3 : Value) (w : World) (N1 : List Value → World → Prop) (K : Ending → World → Prop) : Prop :=
 DoX Tryz.prog (mB .len #[9] 3 #[false] #[t0]) w (pk K) fun t6 w =>
 DoX Tryz.prog (mBin .lss 3 t3 t6) w (pk K) fun t7 w =>
 IfX t7 (DoX Tryz.prog (mIx 9 t0 t3) w (pk K) fun t12 w =>
 DoX Tryz.prog (mEq .eql 5 (.tmp 12) (.const (.int .u8 46)) t12 (.int .u8 46)) w (pk K) fun t13 w =>
 IfX t13 (K (.returned (.bool true)) w) (DoX Tryz.prog (mBin .add 3 t3 (.int .i64 1)) w (pk K) fun t9 w =>
 N1 [t9] w)) (K (.returned (.bool false)) w)
def S_foliantref03_point (t0 : Value) (w : World) (K : Ending → World → Prop) : Prop :=
 LoopX [(.int .i64 0)] w (fun vs1 w N1 => ∀ _ : Sg, S_foliantref03_point_0 t0 (vs1.getD 0 undef) w N1 K)
theorem S_foliantref03_point_eq (t0 : Value) (w : World) (K : Ending → World → Prop) : wpX Tryz.prog 14 [] [(2, [3])] none (bodyOf Tryz.f153) (topQ Tryz.prog [.tmp 2] K) (startX [t0]) [] w = S_foliantref03_point t0 w K := by kernel_rfl
theorem S_foliantref03_point_ok {t0 : Value} {w : World} {K : Ending → World → Prop} (h : S_foliantref03_point t0 w K) : Calls Tryz.prog 153 #[t0] w K :=
  calls_of_wpX Tryz.func153 rfl rfl rfl rfl (Eq.mpr (S_foliantref03_point_eq t0 w K) h)

/- foliantref03.long -/
def S_foliantref03_long (t0 : Value) (w : World) (K : Ending → World → Prop) : Prop :=
 DoX Tryz.prog (mAlloc 63) w (pk K) fun t2 w =>
 CallX Tryz.prog 151 #[t0] w (pk K) fun t7 w =>
 DoX Tryz.prog (mUn .not t7) w (pk K) fun t8 w =>
 IfX t8 (DoX Tryz.prog (mBuild 63 #[]) w (pk K) fun t9 w =>
 DoX Tryz.prog (mStore 63 t2 t9) w (pk K) fun _ w =>
 RetX Tryz.prog [.cell t2 63, .val (.int .i64 5)] w K) (CallX Tryz.prog 152 #[t0] w (pk K) fun t12 w =>
 DoX Tryz.prog (mExt t12 0) w (pk K) fun t13 w =>
 DoX Tryz.prog (mExt t12 1) w (pk K) fun t14 w =>
 DoX Tryz.prog (mBuild 63 #[(0, (.int .i64 1)), (3, t13)]) w (pk K) fun t16 w =>
 DoX Tryz.prog (mStore 63 t2 t16) w (pk K) fun _ w =>
 RetX Tryz.prog [.cell t2 63, .val t14] w K)
theorem S_foliantref03_long_eq (t0 : Value) (w : World) (K : Ending → World → Prop) : wpX Tryz.prog 18 [] [] none (bodyOf Tryz.f150) (topQ Tryz.prog [.cell 2 63, .tmp 3] K) (startX [t0]) [] w = S_foliantref03_long t0 w K := by kernel_rfl
theorem S_foliantref03_long_ok {t0 : Value} {w : World} {K : Ending → World → Prop} (h : S_foliantref03_long t0 w K) : Calls Tryz.prog 150 #[t0] w K :=
  calls_of_wpX Tryz.func150 rfl rfl rfl rfl (Eq.mpr (S_foliantref03_long_eq t0 w K) h)

/- foliantref03.word -/
def S_foliantref03_word_0 (t0 t2 : Value) (w : World) (K : Ending → World → Prop) : Prop :=
 DoX Tryz.prog (mB .len #[9] 3 #[false] #[t0]) w (pk K) fun t42 w =>
 DoX Tryz.prog (mBin .gtr 3 t42 (.int .i64 127)) w (pk K) fun t43 w =>
 IfX t43 (DoX Tryz.prog (mBuild 63 #[]) w (pk K) fun t44 w =>
 DoX Tryz.prog (mStore 63 t2 t44) w (pk K) fun _ w =>
 RetX Tryz.prog [.cell t2 63, .val (.int .i64 5)] w K) (DoX Tryz.prog (mBuild 63 #[(0, (.int .i64 5)), (4, t0)]) w (pk K) fun t46 w =>
 DoX Tryz.prog (mStore 63 t2 t46) w (pk K) fun _ w =>
 RetX Tryz.prog [.cell t2 63, .val (.int .i64 0)] w K)
def S_foliantref03_word (t0 : Value) (w : World) (K : Ending → World → Prop) : Prop :=
 DoX Tryz.prog (mAlloc 63) w (pk K) fun t2 w =>
 DoX Tryz.prog (mB .len #[9] 3 #[false] #[t0]) w (pk K) fun t9 w =>
 DoX Tryz.prog (mBin .gtr 3 t9 (.int .i64 508)) w (pk K) fun t10 w =>
 IfX t10 (CallX Tryz.prog 150 #[t0] w (pk K) fun t12 w =>
 DoX Tryz.prog (mExt t12 0) w (pk K) fun t13 w =>
 DoX Tryz.prog (mExt t12 1) w (pk K) fun t14 w =>
 DoX Tryz.prog (mStore 63 t2 t13) w (pk K) fun _ w =>
 RetX Tryz.prog [.cell t2 63, .val t14] w K) (CallX Tryz.prog 151 #[t0] w (pk K) fun t16 w =>
 IfX t16 (CallX Tryz.prog 152 #[t0] w (pk K) fun t19 w =>
 DoX Tryz.prog (mExt t19 0) w (pk K) fun t20 w =>
 DoX Tryz.prog (mExt t19 1) w (pk K) fun t21 w =>
 DoX Tryz.prog (mBuild 63 #[(0, (.int .i64 1)), (3, t20)]) w (pk K) fun t23 w =>
 DoX Tryz.prog (mStore 63 t2 t23) w (pk K) fun _ w =>
 RetX Tryz.prog [.cell t2 63, .val t21] w K) (JoinX (fun J1 =>
 CallX Tryz.prog 153 #[t0] w (pk K) fun t26 w =>
 IfX t26 (CallX Tryz.prog 154 #[t0] w (pk K) fun t29 w =>
 DoX Tryz.prog (mExt t29 0) w (pk K) fun t30 w =>
 DoX Tryz.prog (mExt t29 1) w (pk K) fun t31 w =>
 DoX Tryz.prog (mEq .eql 23 (.tmp 32) (.const (.int .i64 0)) t31 (.int .i64 0)) w (pk K) fun t33 w =>
 GDo t33 false (fun E => E t31 w) w fun t35 w =>
 GDo t33 false (fun E => DoX Tryz.prog (mEq .eql 23 (.tmp 35) (.const (.int .i64 2)) t35 (.int .i64 2)) w (pk K) E) w fun t36 w =>
 DoX Tryz.prog (mPick t33 (.bool true) t36) w (pk K) fun t37 w =>
 IfX t37 (DoX Tryz.prog (mBuild 63 #[(0, (.int .i64 2)), (3, t30)]) w (pk K) fun t39 w =>
 DoX Tryz.prog (mStore 63 t2 t39) w (pk K) fun _ w =>
 RetX Tryz.prog [.cell t2 63, .val t31] w K) (J1 [(.int .i64 0)] w)) (J1 [(.int .i64 0)] w)) (fun vs1 w => ∀ _ : Sg, S_foliantref03_word_0 t0 t2 w K)))
theorem S_foliantref03_word_eq (t0 : Value) (w : World) (K : Ending → World → Prop) : wpX Tryz.prog 47 [(10, [3])] [] none (bodyOf Tryz.f123) (topQ Tryz.prog [.cell 2 63, .tmp 3] K) (startX [t0]) [] w = S_foliantref03_word t0 w K := by kernel_rfl
theorem S_foliantref03_word_ok {t0 : Value} {w : World} {K : Ending → World → Prop} (h : S_foliantref03_word t0 w K) : Calls Tryz.prog 123 #[t0] w K :=
  calls_of_wpX Tryz.func123 rfl rfl rfl rfl (Eq.mpr (S_foliantref03_word_eq t0 w K) h)

/- foliantref03.name -/
def S_foliantref03_name_1 (t4 t5 t6 : Value) (w : World) (N1 : List Value → World → Prop) (K : Ending → World → Prop) : Prop :=
 DoX Tryz.prog (mBuildS 88 1 #[(0, t6)]) w (pk K) fun t57 w =>
 DoX Tryz.prog (mB .append #[88, 88] 88 #[false, false] #[t4, t57]) w (pk K) fun t58 w =>
 DoX Tryz.prog (mBin .add 3 t5 (.int .i64 1)) w (pk K) fun t14 w =>
 N1 [t58, t14] w
def S_foliantref03_name_0 (t0 t4 t5 : Value) (w : World) (N1 : List Value → World → Prop) (K : Ending → World → Prop) : Prop :=
 DoX Tryz.prog (mB .len #[9] 3 #[false] #[t0]) w (pk K) fun t11 w =>
 DoX Tryz.prog (mBin .lss 3 t5 t11) w (pk K) fun t12 w =>
 IfX t12 (DoX Tryz.prog (mIx 9 t0 t5) w (pk K) fun t17 w =>
 JoinX (fun J2 =>
 DoX Tryz.prog (mEq .eql 5 (.tmp 18) (.const (.int .u8 35)) t17 (.int .u8 35)) w (pk K) fun t19 w =>
 IfX t19 (DoX Tryz.prog (mBin .add 3 t5 (.int .i64 2)) w (pk K) fun t21 w =>
 DoX Tryz.prog (mB .len #[9] 3 #[false] #[t0]) w (pk K) fun t23 w =>
 DoX Tryz.prog (mBin .geq 3 t21 t23) w (pk K) fun t24 w =>
 IfX t24 (K (.returned (.tuple #[(.string ⟨#[]⟩), (.int .i64 3)])) w) (QuietX w (fun C3 =>
 QDo Tryz.prog C3 (mBin .add 3 t5 (.int .i64 1)) fun t27 =>
 QDo Tryz.prog C3 (mIx 9 t0 t27) fun t28 =>
 QCall Tryz.prog C3 147 #[t28] fun t29 =>
 QDo Tryz.prog C3 (mBin .add 3 t5 (.int .i64 2)) fun t32 =>
 QDo Tryz.prog C3 (mIx 9 t0 t32) fun t33 =>
 QCall Tryz.prog C3 147 #[t33] fun t34 =>
 ∀ w, C3 w →
 DoX Tryz.prog (mBin .lss 3 t29 (.int .i64 0)) w (pk K) fun t36 w =>
 GDo t36 false (fun E => E t34 w) w fun t38 w =>
 GDo t36 false (fun E => DoX Tryz.prog (mBin .lss 3 t38 (.int .i64 0)) w (pk K) E) w fun t39 w =>
 DoX Tryz.prog (mPick t36 (.bool true) t39) w (pk K) fun t40 w =>
 GDo t40 false (fun E => E t29 w) w fun t42 w =>
 GDo t40 false (fun E => DoX Tryz.prog (mBin .mul 3 (.int .i64 16) t42) w (pk K) E) w fun t43 w =>
 GDo t40 false (fun E => E t34 w) w fun t44 w =>
 GDo t40 false (fun E => DoX Tryz.prog (mBin .add 3 t43 t44) w (pk K) E) w fun t45 w =>
 GDo t40 false (fun E => DoX Tryz.prog (mEq .eql 3 (.tmp 45) (.const (.int .i64 0)) t45 (.int .i64 0)) w (pk K) E) w fun t46 w =>
 DoX Tryz.prog (mPick t40 (.bool true) t46) w (pk K) fun t47 w =>
 IfX t47 (K (.returned (.tuple #[(.string ⟨#[]⟩), (.int .i64 3)])) w) (DoX Tryz.prog (mBin .mul 3 (.int .i64 16) t29) w (pk K) fun t49 w =>
 DoX Tryz.prog (mBin .add 3 t49 t34) w (pk K) fun t51 w =>
 DoX Tryz.prog (mConv 3 5 t51) w (pk K) fun t52 w =>
 DoX Tryz.prog (mBin .add 3 t5 (.int .i64 2)) w (pk K) fun t54 w =>
 J2 [t54, t52] w)))) (J2 [t5, t17] w)) (fun vs2 w => ∀ _ : Sg, S_foliantref03_name_1 t4 (vs2.getD 0 undef) (vs2.getD 1 undef) w N1 K)) (DoX Tryz.prog (mB .len #[88] 3 #[false] #[t4]) w (pk K) fun t60 w =>
 DoX Tryz.prog (mBin .gtr 3 t60 (.int .i64 127)) w (pk K) fun t61 w =>
 IfX t61 (K (.returned (.tuple #[(.string ⟨#[]⟩), (.int .i64 5)])) w) (DoX Tryz.prog (mConv 88 9 t4) w (pk K) fun t63 w =>
 K (.returned (.tuple #[t63, (.int .i64 0)])) w))
def S_foliantref03_name (t0 : Value) (w : World) (K : Ending → World → Prop) : Prop :=
 LoopX [(.slice none 0 0), (.int .i64 0)] w (fun vs1 w N1 => ∀ _ : Sg, S_foliantref03_name_0 t0 (vs1.getD 0 undef) (vs1.getD 1 undef) w N1 K)
theorem S_foliantref03_name_eq (t0 : Value) (w : World) (K : Ending → World → Prop) : wpX Tryz.prog 64 [(14, [5, 6])] [(3, [4, 5])] none (bodyOf Tryz.f120) (topQ Tryz.prog [.tmp 2, .tmp 3] K) (startX [t0]) [] w = S_foliantref03_name t0 w K := by kernel_rfl
theorem S_foliantref03_name_ok {t0 : Value} {w : World} {K : Ending → World → Prop} (h : S_foliantref03_name t0 w K) : Calls Tryz.prog 120 #[t0] w K :=
  calls_of_wpX Tryz.func120 rfl rfl rfl rfl (Eq.mpr (S_foliantref03_name_eq t0 w K) h)

/- foliantref03.escape -/
def S_foliantref03_escape_1 (t0 t1 t10 t11 : Value) (w : World) (N2 : List Value → World → Prop) (K : Ending → World → Prop) : Prop :=
 DoX Tryz.prog (mB .len #[9] 3 #[false] #[t0]) w (pk K) fun t64 w =>
 DoX Tryz.prog (mBin .lss 3 t11 t64) w (pk K) fun t65 w =>
 GDo t65 true (fun E => E t11 w) w fun t67 w =>
 GDo t65 true (fun E => E t1 w) w fun t68 w =>
 GDo t65 true (fun E => DoX Tryz.prog (mBin .add 3 t68 (.int .i64 4)) w (pk K) E) w fun t69 w =>
 GDo t65 true (fun E => DoX Tryz.prog (mBin .lss 3 t67 t69) w (pk K) E) w fun t70 w =>
 DoX Tryz.prog (mPick t65 t70 (.bool false)) w (pk K) fun t71 w =>
 GDo t71 true (fun E => E t0 w) w fun t73 w =>
 GDo t71 true (fun E => E t11 w) w fun t74 w =>
 GDo t71 true (fun E => DoX Tryz.prog (mIx 9 t73 t74) w (pk K) E) w fun t75 w =>
 GDo t71 true (fun E => DoX Tryz.prog (mBin .geq 5 t75 (.int .u8 48)) w (pk K) E) w fun t76 w =>
 DoX Tryz.prog (mPick t71 t76 (.bool false)) w (pk K) fun t77 w =>
 GDo t77 true (fun E => E t0 w) w fun t79 w =>
 GDo t77 true (fun E => E t11 w) w fun t80 w =>
 GDo t77 true (fun E => DoX Tryz.prog (mIx 9 t79 t80) w (pk K) E) w fun t81 w =>
 GDo t77 true (fun E => DoX Tryz.prog (mBin .leq 5 t81 (.int .u8 55)) w (pk K) E) w fun t82 w =>
 DoX Tryz.prog (mPick t77 t82 (.bool false)) w (pk K) fun t83 w =>
 IfX t83 (DoX Tryz.prog (mBin .mul 3 (.int .i64 8) t10) w (pk K) fun t85 w =>
 DoX Tryz.prog (mIx 9 t0 t11) w (pk K) fun t88 w =>
 DoX Tryz.prog (mConv 5 3 t88) w (pk K) fun t89 w =>
 DoX Tryz.prog (mBin .add 3 t85 t89) w (pk K) fun t90 w =>
 DoX Tryz.prog (mBin .sub 3 t90 (.int .i64 48)) w (pk K) fun t91 w =>
 DoX Tryz.prog (mBin .add 3 t11 (.int .i64 1)) w (pk K) fun t93 w =>
 N2 [t91, t93] w) (DoX Tryz.prog (mBin .add 3 t1 (.int .i64 1)) w (pk K) fun t96 w =>
 DoX Tryz.prog (mBin .gtr 3 t11 t96) w (pk K) fun t97 w =>
 IfX t97 (DoX Tryz.prog (mBin .rem 3 t10 (.int .i64 256)) w (pk K) fun t99 w =>
 DoX Tryz.prog (mConv 3 5 t99) w (pk K) fun t100 w =>
 DoX Tryz.prog (mBuildS 88 1 #[(0, t100)]) w (pk K) fun t101 w =>
 DoX Tryz.prog (mConv 88 9 t101) w (pk K) fun t102 w =>
 K (.returned (.tuple #[t102, t11])) w) (DoX Tryz.prog (mBin .add 3 t1 (.int .i64 1)) w (pk K) fun t106 w =>
 DoX Tryz.prog (mBin .add 3 t1 (.int .i64 2)) w (pk K) fun t108 w =>
 DoX Tryz.prog (mSlice 9 t0 (some t106) (some t108) none) w (pk K) fun t109 w =>
 DoX Tryz.prog (mBin .add 3 t1 (.int .i64 2)) w (pk K) fun t111 w =>
 K (.returned (.tuple #[t109, t111])) w))
def S_foliantref03_escape_0 (t0 t1 t6 t7 t8 t9 : Value) (w : World) (N1 : List Value → World → Prop) (K : Ending → World → Prop) : Prop :=
 DoX Tryz.prog (mB .len #[9] 3 #[false] #[t7]) w (pk K) fun t18 w =>
 DoX Tryz.prog (mBin .lss 3 t9 t18) w (pk K) fun t19 w =>
 IfX t19 (DoX Tryz.prog (mIx 9 t7 t9) w (pk K) fun t25 w =>
 DoX Tryz.prog (mEq .eql 5 (.tmp 22) (.tmp 25) t6 t25) w (pk K) fun t26 w =>
 IfX t26 (DoX Tryz.prog (mBin .add 3 t9 (.int .i64 1)) w (pk K) fun t30 w =>
 DoX Tryz.prog (mSlice 9 t8 (some t9) (some t30) none) w (pk K) fun t31 w =>
 DoX Tryz.prog (mBin .add 3 t1 (.int .i64 2)) w (pk K) fun t33 w =>
 K (.returned (.tuple #[t31, t33])) w) (DoX Tryz.prog (mBin .add 3 t9 (.int .i64 1)) w (pk K) fun t21 w =>
 N1 [t21] w)) (DoX Tryz.prog (mEq .eql 5 (.tmp 34) (.const (.int .u8 13)) t6 (.int .u8 13)) w (pk K) fun t35 w =>
 GDo t35 true (fun E => E t1 w) w fun t37 w =>
 GDo t35 true (fun E => DoX Tryz.prog (mBin .add 3 t37 (.int .i64 2)) w (pk K) E) w fun t38 w =>
 GDo t35 true (fun E => E t0 w) w fun t39 w =>
 GDo t35 true (fun E => DoX Tryz.prog (mB .len #[9] 3 #[false] #[t39]) w (pk K) E) w fun t40 w =>
 GDo t35 true (fun E => DoX Tryz.prog (mBin .lss 3 t38 t40) w (pk K) E) w fun t41 w =>
 DoX Tryz.prog (mPick t35 t41 (.bool false)) w (pk K) fun t42 w =>
 GDo t42 true (fun E => E t0 w) w fun t44 w =>
 GDo t42 true (fun E => E t1 w) w fun t45 w =>
 GDo t42 true (fun E => DoX Tryz.prog (mBin .add 3 t45 (.int .i64 2)) w (pk K) E) w fun t46 w =>
 GDo t42 true (fun E => DoX Tryz.prog (mIx 9 t44 t46) w (pk K) E) w fun t47 w =>
 GDo t42 true (fun E => DoX Tryz.prog (mEq .eql 5 (.tmp 47) (.const (.int .u8 10)) t47 (.int .u8 10)) w (pk K) E) w fun t48 w =>
 DoX Tryz.prog (mPick t42 t48 (.bool false)) w (pk K) fun t49 w =>
 IfX t49 (DoX Tryz.prog (mBin .add 3 t1 (.int .i64 3)) w (pk K) fun t51 w =>
 K (.returned (.tuple #[(.string ⟨#[]⟩), t51])) w) (DoX Tryz.prog (mEq .eql 5 (.tmp 52) (.const (.int .u8 13)) t6 (.int .u8 13)) w (pk K) fun t53 w =>
 GDo t53 false (fun E => E t6 w) w fun t55 w =>
 GDo t53 false (fun E => DoX Tryz.prog (mEq .eql 5 (.tmp 55) (.const (.int .u8 10)) t55 (.int .u8 10)) w (pk K) E) w fun t56 w =>
 DoX Tryz.prog (mPick t53 (.bool true) t56) w (pk K) fun t57 w =>
 IfX t57 (DoX Tryz.prog (mBin .add 3 t1 (.int .i64 2)) w (pk K) fun t59 w =>
 K (.returned (.tuple #[(.string ⟨#[]⟩), t59])) w) (DoX Tryz.prog (mBin .add 3 t1 (.int .i64 1)) w (pk K) fun t61 w =>
 LoopX [(.int .i64 0), t61] w (fun vs2 w N2 => ∀ _ : Sg, S_foliantref03_escape_1 t0 t1 (vs2.getD 0 undef) (vs2.getD 1 undef) w N2 K))))
def S_foliantref03_escape (t0 t1 : Value) (w : World) (K : Ending → World → Prop) : Prop :=
 DoX Tryz.prog (mBin .add 3 t1 (.int .i64 1)) w (pk K) fun t14 w =>
 DoX Tryz.prog (mIx 9 t0 t14) w (pk K) fun t15 w =>
 LoopX [(.int .i64 0)] w (fun vs1 w N1 => ∀ _ : Sg, S_foliantref03_escape_0 t0 t1 t15 (.string ⟨#[110, 114, 116, 98, 102]⟩) (.string ⟨#[10, 13, 9, 8, 12]⟩) (vs1.getD 0 undef) w N1 K)
theorem S_foliantref03_escape_eq (t0 t1 : Value) (w : World) (K : Ending → World → Prop) : wpX Tryz.prog 112 [] [(4, [9]), (13, [10, 11])] none (bodyOf Tryz.f148) (topQ Tryz.prog [.tmp 4, .tmp 5] K) (startX [t0, t1]) [] w = S_foliantref03_escape t0 t1 w K := by kernel_rfl
theorem S_foliantref03_escape_ok {t0 t1 : Value} {w : World} {K : Ending → World → Prop} (h : S_foliantref03_escape t0 t1 w K) : Calls Tryz.prog 148 #[t0, t1] w K :=
  calls_of_wpX Tryz.func148 rfl rfl rfl rfl (Eq.mpr (S_foliantref03_escape_eq t0 t1 w K) h)

/- foliantref03.text -/
def S_foliantref03_text_4 (t1 t7 t8 t9 : Value) (w : World) (N1 : List Value → World → Prop) (K : Ending → World → Prop) : Prop :=
 DoX Tryz.prog (mBuildS 88 1 #[(0, t9)]) w (pk K) fun t75 w =>
 DoX Tryz.prog (mB .append #[88, 88] 88 #[false, false] #[t7, t75]) w (pk K) fun t76 w =>
 DoX Tryz.prog (mBin .add 3 t1 (.int .i64 1)) w (pk K) fun t78 w =>
 N1 [t78, t76, t8] w
def S_foliantref03_text_3 (t1 t7 t8 t9 : Value) (w : World) (N1 : List Value → World → Prop) (K : Ending → World → Prop) : Prop :=
 JoinX (fun J5 =>
 DoX Tryz.prog (mEq .eql 5 (.tmp 71) (.const (.int .u8 13)) t9 (.int .u8 13)) w (pk K) fun t72 w =>
 IfX t72 (J5 [(.int .u8 10)] w) (J5 [t9] w)) (fun vs5 w => ∀ _ : Sg, S_foliantref03_text_4 t1 t7 t8 (vs5.getD 0 undef) w N1 K)
def S_foliantref03_text_2 (t0 t1 t7 t8 t9 : Value) (w : World) (N1 : List Value → World → Prop) (K : Ending → World → Prop) : Prop :=
 JoinX (fun J4 =>
 DoX Tryz.prog (mEq .eql 5 (.tmp 53) (.const (.int .u8 13)) t9 (.int .u8 13)) w (pk K) fun t54 w =>
 GDo t54 true (fun E => E t1 w) w fun t56 w =>
 GDo t54 true (fun E => DoX Tryz.prog (mBin .add 3 t56 (.int .i64 1)) w (pk K) E) w fun t57 w =>
 GDo t54 true (fun E => E t0 w) w fun t58 w =>
 GDo t54 true (fun E => DoX Tryz.prog (mB .len #[9] 3 #[false] #[t58]) w (pk K) E) w fun t59 w =>
 GDo t54 true (fun E => DoX Tryz.prog (mBin .lss 3 t57 t59) w (pk K) E) w fun t60 w =>
 DoX Tryz.prog (mPick t54 t60 (.bool false)) w (pk K) fun t61 w =>
 GDo t61 true (fun E => E t0 w) w fun t63 w =>
 GDo t61 true (fun E => E t1 w) w fun t64 w =>
 GDo t61 true (fun E => DoX Tryz.prog (mBin .add 3 t64 (.int .i64 1)) w (pk K) E) w fun t65 w =>
 GDo t61 true (fun E => DoX Tryz.prog (mIx 9 t63 t65) w (pk K) E) w fun t66 w =>
 GDo t61 true (fun E => DoX Tryz.prog (mEq .eql 5 (.tmp 66) (.const (.int .u8 10)) t66 (.int .u8 10)) w (pk K) E) w fun t67 w =>
 DoX Tryz.prog (mPick t61 t67 (.bool false)) w (pk K) fun t68 w =>
 IfX t68 (DoX Tryz.prog (mBin .add 3 t1 (.int .i64 1)) w (pk K) fun t70 w =>
 J4 [t70] w) (J4 [t1] w)) (fun vs4 w => ∀ _ : Sg, S_foliantref03_text_3 (vs4.getD 0 undef) t7 t8 t9 w N1 K)
def S_foliantref03_text_1 (t0 t1 t7 t8 t9 : Value) (w : World) (N1 : List Value → World → Prop) (K : Ending → World → Prop) : Prop :=
 JoinX (fun J3 =>
 DoX Tryz.prog (mEq .eql 5 (.tmp 40) (.const (.int .u8 41)) t9 (.int .u8 41)) w (pk K) fun t41 w =>
 IfX t41 (DoX Tryz.prog (mBin .sub 3 t8 (.int .i64 1)) w (pk K) fun t43 w =>
 DoX Tryz.prog (mEq .eql 3 (.tmp 44) (.const (.int .i64 0)) t43 (.int .i64 0)) w (pk K) fun t45 w =>
 IfX t45 (DoX Tryz.prog (mB .len #[88] 3 #[false] #[t7]) w (pk K) fun t47 w =>
 DoX Tryz.prog (mBin .gtr 3 t47 (.int .i64 32767)) w (pk K) fun t48 w =>
 IfX t48 (K (.returned (.tuple #[(.string ⟨#[]⟩), (.int .i64 0), (.int .i64 5)])) w) (DoX Tryz.prog (mConv 88 9 t7) w (pk K) fun t50 w =>
 DoX Tryz.prog (mBin .add 3 t1 (.int .i64 1)) w (pk K) fun t52 w =>
 K (.returned (.tuple #[t50, t52, (.int .i64 0)])) w)) (J3 [t43] w)) (J3 [t8] w)) (fun vs3 w => ∀ _ : Sg, S_foliantref03_text_2 t0 t1 t7 (vs3.getD 0 undef) t9 w N1 K)
def S_foliantref03_text_0 (t0 t1 t7 t8 : Value) (w : World) (N1 : List Value → World → Prop) (K : Ending → World → Prop) : Prop :=
 DoX Tryz.prog (mB .len #[9] 3 #[false] #[t0]) w (pk K) fun t14 w =>
 DoX Tryz.prog (mBin .lss 3 t1 t14) w (pk K) fun t15 w =>
 IfX t15 (DoX Tryz.prog (mIx 9 t0 t1) w (pk K) fun t18 w =>
 DoX Tryz.prog (mEq .eql 5 (.tmp 19) (.const (.int .u8 92)) t18 (.int .u8 92)) w (pk K) fun t20 w =>
 IfX t20 (DoX Tryz.prog (mBin .add 3 t1 (.int .i64 1)) w (pk K) fun t22 w =>
 DoX Tryz.prog (mB .len #[9] 3 #[false] #[t0]) w (pk K) fun t24 w =>
 DoX Tryz.prog (mBin .geq 3 t22 t24) w (pk K) fun t25 w =>
 IfX t25 (K (.returned (.tuple #[(.string ⟨#[]⟩), (.int .i64 0), (.int .i64 4)])) w) (CallX Tryz.prog 148 #[t0, t1] w (pk K) fun t29 w =>
 DoX Tryz.prog (mExt t29 0) w (pk K) fun t30 w =>
 DoX Tryz.prog (mExt t29 1) w (pk K) fun t31 w =>
 DoX Tryz.prog (mB .append #[88, 9] 88 #[false, false] #[t7, t30]) w (pk K) fun t34 w =>
 N1 [t31, t34, t8] w)) (JoinX (fun J2 =>
 DoX Tryz.prog (mEq .eql 5 (.tmp 36) (.const (.int .u8 40)) t18 (.int .u8 40)) w (pk K) fun t37 w =>
 IfX t37 (DoX Tryz.prog (mBin .add 3 t8 (.int .i64 1)) w (pk K) fun t39 w =>
 J2 [t39] w) (J2 [t8] w)) (fun vs2 w => ∀ _ : Sg, S_foliantref03_text_1 t0 t1 t7 (vs2.getD 0 undef) t18 w N1 K))) (K (.returned (.tuple #[(.string ⟨#[]⟩), (.int .i64 0), (.int .i64 4)])) w)
def S_foliantref03_text (t0 t1 : Value) (w : World) (K : Ending → World → Prop) : Prop :=
 LoopX [t1, (.slice none 0 0), (.int .i64 1)] w (fun vs1 w N1 => ∀ _ : Sg, S_foliantref03_text_0 t0 (vs1.getD 0 undef) (vs1.getD 1 undef) (vs1.getD 2 undef) w N1 K)
theorem S_foliantref03_text_eq (t0 t1 : Value) (w : World) (K : Ending → World → Prop) : wpX Tryz.prog 79 [(13, [8]), (19, [8]), (21, [1]), (23, [9])] [(3, [1, 7, 8])] none (bodyOf Tryz.f121) (topQ Tryz.prog [.tmp 4, .tmp 5, .tmp 6] K) (startX [t0, t1]) [] w = S_foliantref03_text t0 t1 w K := by kernel_rfl
theorem S_foliantref03_text_ok {t0 t1 : Value} {w : World} {K : Ending → World → Prop} (h : S_foliantref03_text t0 t1 w K) : Calls Tryz.prog 121 #[t0, t1] w K :=
  calls_of_wpX Tryz.func121 rfl rfl rfl rfl (Eq.mpr (S_foliantref03_text_eq t0 t1 w K) h)

/- foliantref03.hex -/
def S_foliantref03_hex_2 (t1 t7 : Value) (w : World) (K : Ending → World → Prop) : Prop :=
 DoX Tryz.prog (mConv 88 9 t7) w (pk K) fun t51 w =>
 CallX Tryz.prog 149 #[t51] w (pk K) fun t52 w =>
 DoX Tryz.prog (mExt t52 0) w (pk K) fun t53 w =>
 DoX Tryz.prog (mExt t52 1) w (pk K) fun t54 w =>
 DoX Tryz.prog (mB .len #[9] 3 #[false] #[t53]) w (pk K) fun t56 w =>
 DoX Tryz.prog (mBin .gtr 3 t56 (.int .i64 32767)) w (pk K) fun t57 w =>
 IfX t57 (K (.returned (.tuple #[(.string ⟨#[]⟩), (.int .i64 0), (.int .i64 5)])) w) (DoX Tryz.prog (mBin .add 3 t1 (.int .i64 1)) w (pk K) fun t60 w =>
 K (.returned (.tuple #[t53, t60, (.int .i64 0)])) w)
def S_foliantref03_hex_1 (t1 t7 : Value) (w : World) (N1 : List Value → World → Prop) (K : Ending → World → Prop) : Prop :=
 DoX Tryz.prog (mBin .add 3 t1 (.int .i64 1)) w (pk K) fun t37 w =>
 N1 [t37, t7] w
def S_foliantref03_hex_0 (t0 t1 t7 : Value) (w : World) (N1 : List Value → World → Prop) (K : Ending → World → Prop) : Prop :=
 DoX Tryz.prog (mB .len #[9] 3 #[false] #[t0]) w (pk K) fun t12 w =>
 DoX Tryz.prog (mBin .lss 3 t1 t12) w (pk K) fun t13 w =>
 GDo t13 true (fun E => E t0 w) w fun t15 w =>
 GDo t13 true (fun E => E t1 w) w fun t16 w =>
 GDo t13 true (fun E => DoX Tryz.prog (mIx 9 t15 t16) w (pk K) E) w fun t17 w =>
 GDo t13 true (fun E => DoX Tryz.prog (mEq .neq 5 (.tmp 17) (.const (.int .u8 62)) t17 (.int .u8 62)) w (pk K) E) w fun t18 w =>
 DoX Tryz.prog (mPick t13 t18 (.bool false)) w (pk K) fun t19 w =>
 IfX t19 (JoinX (fun J2 =>
 DoX Tryz.prog (mIx 9 t0 t1) w (pk K) fun t22 w =>
 CallX Tryz.prog 147 #[t22] w (pk K) fun t23 w =>
 DoX Tryz.prog (mBin .geq 3 t23 (.int .i64 0)) w (pk K) fun t24 w =>
 IfX t24 (DoX Tryz.prog (mIx 9 t0 t1) w (pk K) fun t28 w =>
 DoX Tryz.prog (mBuildS 88 1 #[(0, t28)]) w (pk K) fun t29 w =>
 DoX Tryz.prog (mB .append #[88, 88] 88 #[false, false] #[t7, t29]) w (pk K) fun t30 w =>
 J2 [t30] w) (DoX Tryz.prog (mIx 9 t0 t1) w (pk K) fun t33 w =>
 CallX Tryz.prog 118 #[t33] w (pk K) fun t34 w =>
 DoX Tryz.prog (mUn .not t34) w (pk K) fun t35 w =>
 IfX t35 (K (.returned (.tuple #[(.string ⟨#[]⟩), (.int .i64 0), (.int .i64 3)])) w) (J2 [t7] w))) (fun vs2 w => ∀ _ : Sg, S_foliantref03_hex_1 t1 (vs2.getD 0 undef) w N1 K)) (DoX Tryz.prog (mB .len #[9] 3 #[false] #[t0]) w (pk K) fun t40 w =>
 DoX Tryz.prog (mBin .geq 3 t1 t40) w (pk K) fun t41 w =>
 IfX t41 (K (.returned (.tuple #[(.string ⟨#[]⟩), (.int .i64 0), (.int .i64 4)])) w) (JoinX (fun J3 =>
 DoX Tryz.prog (mB .len #[88] 3 #[false] #[t7]) w (pk K) fun t43 w =>
 DoX Tryz.prog (mBin .rem 3 t43 (.int .i64 2)) w (pk K) fun t44 w =>
 DoX Tryz.prog (mEq .neq 3 (.tmp 44) (.const (.int .i64 0)) t44 (.int .i64 0)) w (pk K) fun t45 w =>
 IfX t45 (DoX Tryz.prog (mBuildS 88 1 #[(0, (.int .u8 48))]) w (pk K) fun t47 w =>
 DoX Tryz.prog (mB .append #[88, 88] 88 #[false, false] #[t7, t47]) w (pk K) fun t48 w =>
 J3 [t48] w) (J3 [t7] w)) (fun vs3 w => ∀ _ : Sg, S_foliantref03_hex_2 t1 (vs3.getD 0 undef) w K)))
def S_foliantref03_hex (t0 t1 : Value) (w : World) (K : Ending → World → Prop) : Prop :=
 LoopX [t1, (.slice none 0 0)] w (fun vs1 w N1 => ∀ _ : Sg, S_foliantref03_hex_0 t0 (vs1.getD 0 undef) (vs1.getD 1 undef) w N1 K)
theorem S_foliantref03_hex_eq (t0 t1 : Value) (w : World) (K : Ending → World → Prop) : wpX Tryz.prog 61 [(7, [7]), (12, [7])] [(2, [1, 7])] none (bodyOf Tryz.f122) (topQ Tryz.prog [.tmp 4, .tmp 5, .tmp 6] K) (startX [t0, t1]) [] w = S_foliantref03_hex t0 t1 w K := by kernel_rfl
theorem S_foliantref03_hex_ok {t0 t1 : Value} {w : World} {K : Ending → World → Prop} (h : S_foliantref03_hex t0 t1 w K) : Calls Tryz.prog 122 #[t0, t1] w K :=
  calls_of_wpX Tryz.func122 rfl rfl rfl rfl (Eq.mpr (S_foliantref03_hex_eq t0 t1 w K) h)

/- foliantref03.token -/
def S_foliantref03_token_0 (t1 t4 t11 t12 t13 : Value) (w : World) (K : Ending → World → Prop) : Prop :=
 DoX Tryz.prog (mEq .neq 23 (.tmp 128) (.const (.int .i64 0)) t13 (.int .i64 0)) w (pk K) fun t129 w =>
 IfX t129 (DoX Tryz.prog (mBuild 63 #[]) w (pk K) fun t130 w =>
 DoX Tryz.prog (mStore 63 t4 t130) w (pk K) fun _ w =>
 RetX Tryz.prog [.cell t4 63, .val t13] w K) (DoX Tryz.prog (mBuild 63 #[(0, (.int .i64 3)), (1, t1), (2, t12), (4, t11)]) w (pk K) fun t135 w =>
 DoX Tryz.prog (mStore 63 t4 t135) w (pk K) fun _ w =>
 RetX Tryz.prog [.cell t4 63, .val (.int .i64 0)] w K)
def S_foliantref03_token (t0 t1 : Value) (w : World) (K : Ending → World → Prop) : Prop :=
 DoX Tryz.prog (mAlloc 63) w (pk K) fun t4 w =>
 DoX Tryz.prog (mIx 9 t0 t1) w (pk K) fun t19 w =>
 DoX Tryz.prog (mBin .add 3 t1 (.int .i64 1)) w (pk K) fun t21 w =>
 DoX Tryz.prog (mB .len #[9] 3 #[false] #[t0]) w (pk K) fun t23 w =>
 DoX Tryz.prog (mBin .lss 3 t21 t23) w (pk K) fun t24 w =>
 GDo t24 true (fun E => E t0 w) w fun t26 w =>
 GDo t24 true (fun E => E t1 w) w fun t27 w =>
 GDo t24 true (fun E => DoX Tryz.prog (mBin .add 3 t27 (.int .i64 1)) w (pk K) E) w fun t28 w =>
 GDo t24 true (fun E => DoX Tryz.prog (mIx 9 t26 t28) w (pk K) E) w fun t29 w =>
 GDo t24 true (fun E => E t19 w) w fun t30 w =>
 GDo t24 true (fun E => DoX Tryz.prog (mEq .eql 5 (.tmp 29) (.tmp 30) t29 t30) w (pk K) E) w fun t31 w =>
 DoX Tryz.prog (mPick t24 t31 (.bool false)) w (pk K) fun t32 w =>
 DoX Tryz.prog (mEq .eql 5 (.tmp 33) (.const (.int .u8 60)) t19 (.int .u8 60)) w (pk K) fun t34 w =>
 GDo t34 false (fun E => E t19 w) w fun t36 w =>
 GDo t34 false (fun E => DoX Tryz.prog (mEq .eql 5 (.tmp 36) (.const (.int .u8 62)) t36 (.int .u8 62)) w (pk K) E) w fun t37 w =>
 DoX Tryz.prog (mPick t34 (.bool true) t37) w (pk K) fun t38 w =>
 GDo t38 true (fun E => E t32 w) w fun t40 w =>
 DoX Tryz.prog (mPick t38 t40 (.bool false)) w (pk K) fun t41 w =>
 IfX t41 (DoX Tryz.prog (mBin .add 3 t1 (.int .i64 2)) w (pk K) fun t44 w =>
 DoX Tryz.prog (mBin .add 3 t1 (.int .i64 2)) w (pk K) fun t48 w =>
 DoX Tryz.prog (mSlice 9 t0 (some t1) (some t48) none) w (pk K) fun t49 w =>
 DoX Tryz.prog (mBuild 63 #[(0, (.int .i64 6)), (1, t1), (2, t44), (4, t49)]) w (pk K) fun t50 w =>
 DoX Tryz.prog (mStore 63 t4 t50) w (pk K) fun _ w =>
 RetX Tryz.prog [.cell t4 63, .val (.int .i64 0)] w K) (DoX Tryz.prog (mEq .eql 5 (.tmp 51) (.const (.int .u8 91)) t19 (.int .u8 91)) w (pk K) fun t52 w =>
 GDo t52 false (fun E => E t19 w) w fun t54 w =>
 GDo t52 false (fun E => DoX Tryz.prog (mEq .eql 5 (.tmp 54) (.const (.int .u8 93)) t54 (.int .u8 93)) w (pk K) E) w fun t55 w =>
 DoX Tryz.prog (mPick t52 (.bool true) t55) w (pk K) fun t56 w =>
 GDo t56 false (fun E => E t19 w) w fun t58 w =>
 GDo t56 false (fun E => DoX Tryz.prog (mEq .eql 5 (.tmp 58) (.const (.int .u8 123)) t58 (.int .u8 123)) w (pk K) E) w fun t59 w =>
 DoX Tryz.prog (mPick t56 (.bool true) t59) w (pk K) fun t60 w =>
 GDo t60 false (fun E => E t19 w) w fun t62 w =>
 GDo t60 false (fun E => DoX Tryz.prog (mEq .eql 5 (.tmp 62) (.const (.int .u8 125)) t62 (.int .u8 125)) w (pk K) E) w fun t63 w =>
 DoX Tryz.prog (mPick t60 (.bool true) t63) w (pk K) fun t64 w =>
 IfX t64 (DoX Tryz.prog (mBin .add 3 t1 (.int .i64 1)) w (pk K) fun t67 w =>
 DoX Tryz.prog (mBin .add 3 t1 (.int .i64 1)) w (pk K) fun t71 w =>
 DoX Tryz.prog (mSlice 9 t0 (some t1) (some t71) none) w (pk K) fun t72 w =>
 DoX Tryz.prog (mBuild 63 #[(0, (.int .i64 6)), (1, t1), (2, t67), (4, t72)]) w (pk K) fun t73 w =>
 DoX Tryz.prog (mStore 63 t4 t73) w (pk K) fun _ w =>
 RetX Tryz.prog [.cell t4 63, .val (.int .i64 0)] w K) (DoX Tryz.prog (mEq .eql 5 (.tmp 74) (.const (.int .u8 62)) t19 (.int .u8 62)) w (pk K) fun t75 w =>
 GDo t75 false (fun E => E t19 w) w fun t77 w =>
 GDo t75 false (fun E => DoX Tryz.prog (mEq .eql 5 (.tmp 77) (.const (.int .u8 41)) t77 (.int .u8 41)) w (pk K) E) w fun t78 w =>
 DoX Tryz.prog (mPick t75 (.bool true) t78) w (pk K) fun t79 w =>
 IfX t79 (DoX Tryz.prog (mBuild 63 #[]) w (pk K) fun t80 w =>
 DoX Tryz.prog (mStore 63 t4 t80) w (pk K) fun _ w =>
 RetX Tryz.prog [.cell t4 63, .val (.int .i64 3)] w K) (DoX Tryz.prog (mEq .eql 5 (.tmp 81) (.const (.int .u8 47)) t19 (.int .u8 47)) w (pk K) fun t82 w =>
 IfX t82 (DoX Tryz.prog (mBin .add 3 t1 (.int .i64 1)) w (pk K) fun t85 w =>
 CallX Tryz.prog 119 #[t0, t85] w (pk K) fun t86 w =>
 DoX Tryz.prog (mBin .add 3 t1 (.int .i64 1)) w (pk K) fun t90 w =>
 DoX Tryz.prog (mSlice 9 t0 (some t90) (some t86) none) w (pk K) fun t92 w =>
 CallX Tryz.prog 120 #[t92] w (pk K) fun t93 w =>
 DoX Tryz.prog (mExt t93 0) w (pk K) fun t94 w =>
 DoX Tryz.prog (mExt t93 1) w (pk K) fun t95 w =>
 DoX Tryz.prog (mEq .neq 23 (.tmp 96) (.const (.int .i64 0)) t95 (.int .i64 0)) w (pk K) fun t97 w =>
 IfX t97 (DoX Tryz.prog (mBuild 63 #[]) w (pk K) fun t98 w =>
 DoX Tryz.prog (mStore 63 t4 t98) w (pk K) fun _ w =>
 RetX Tryz.prog [.cell t4 63, .val t95] w K) (DoX Tryz.prog (mBuild 63 #[(0, (.int .i64 4)), (1, t1), (2, t86), (4, t94)]) w (pk K) fun t103 w =>
 DoX Tryz.prog (mStore 63 t4 t103) w (pk K) fun _ w =>
 RetX Tryz.prog [.cell t4 63, .val (.int .i64 0)] w K)) (DoX Tryz.prog (mEq .eql 5 (.tmp 104) (.const (.int .u8 40)) t19 (.int .u8 40)) w (pk K) fun t105 w =>
 GDo t105 false (fun E => E t19 w) w fun t107 w =>
 GDo t105 false (fun E => DoX Tryz.prog (mEq .eql 5 (.tmp 107) (.const (.int .u8 60)) t107 (.int .u8 60)) w (pk K) E) w fun t108 w =>
 DoX Tryz.prog (mPick t105 (.bool true) t108) w (pk K) fun t109 w =>
 IfX t109 (DoX Tryz.prog (mBin .add 3 t1 (.int .i64 1)) w (pk K) fun t113 w =>
 CallX Tryz.prog 121 #[t0, t113] w (pk K) fun t114 w =>
 DoX Tryz.prog (mExt t114 0) w (pk K) fun t115 w =>
 DoX Tryz.prog (mExt t114 1) w (pk K) fun t116 w =>
 DoX Tryz.prog (mExt t114 2) w (pk K) fun t117 w =>
 JoinX (fun J1 =>
 DoX Tryz.prog (mEq .eql 5 (.tmp 118) (.const (.int .u8 60)) t19 (.int .u8 60)) w (pk K) fun t119 w =>
 IfX t119 (DoX Tryz.prog (mBin .add 3 t1 (.int .i64 1)) w (pk K) fun t123 w =>
 CallX Tryz.prog 122 #[t0, t123] w (pk K) fun t124 w =>
 DoX Tryz.prog (mExt t124 0) w (pk K) fun t125 w =>
 DoX Tryz.prog (mExt t124 1) w (pk K) fun t126 w =>
 DoX Tryz.prog (mExt t124 2) w (pk K) fun t127 w =>
 J1 [t125, t126, t127] w) (J1 [t115, t116, t117] w)) (fun vs1 w => ∀ _ : Sg, S_foliantref03_token_0 t1 t4 (vs1.getD 0 undef) (vs1.getD 1 undef) (vs1.getD 2 undef) w K)) (CallX Tryz.prog 119 #[t0, t1] w (pk K) fun t138 w =>
 DoX Tryz.prog (mSlice 9 t0 (some t1) (some t138) none) w (pk K) fun t143 w =>
 CallX Tryz.prog 123 #[t143] w (pk K) fun t144 w =>
 DoX Tryz.prog (mExt t144 0) w (pk K) fun t145 w =>
 DoX Tryz.prog (mExt t144 1) w (pk K) fun t146 w =>
 DoX Tryz.prog (mAlloc 63) w (pk K) fun t15 w =>
 DoX Tryz.prog (mStore 63 t15 t145) w (pk K) fun _ w =>
 DoX Tryz.prog (mEq .neq 23 (.tmp 147) (.const (.int .i64 0)) t146 (.int .i64 0)) w (pk K) fun t148 w =>
 IfX t148 (DoX Tryz.prog (mBuild 63 #[]) w (pk K) fun t149 w =>
 DoX Tryz.prog (mStore 63 t4 t149) w (pk K) fun _ w =>
 RetX Tryz.prog [.cell t4 63, .val t146] w K) (DoX Tryz.prog (mFA 63 t15 1) w (pk K) fun t152 w =>
 DoX Tryz.prog (mStore 3 t152 t1) w (pk K) fun _ w =>
 DoX Tryz.prog (mFA 63 t15 2) w (pk K) fun t154 w =>
 DoX Tryz.prog (mStore 3 t154 t138) w (pk K) fun _ w =>
 DoX Tryz.prog (mLoad 63 t15) w (pk K) fun t155 w =>
 DoX Tryz.prog (mStore 63 t4 t155) w (pk K) fun _ w =>
 RetX Tryz.prog [.cell t4 63, .val (.int .i64 0)] w K))))))
theorem S_foliantref03_token_eq (t0 t1 : Value) (w : World) (K : Ending → World → Prop) : wpX Tryz.prog 156 [(19, [11, 12, 13])] [] none (bodyOf Tryz.f86) (topQ Tryz.prog [.cell 4 63, .tmp 5] K) (startX [t0, t1]) [] w = S_foliantref03_token t0 t1 w K := by kernel_rfl
theorem S_foliantref03_token_ok {t0 t1 : Value} {w : World} {K : Ending → World → Prop} (h : S_foliantref03_token t0 t1 w K) : Calls Tryz.prog 86 #[t0, t1] w K :=
  calls_of_wpX Tryz.func86 rfl rfl rfl rfl (Eq.mpr (S_foliantref03_token_eq t0 t1 w K) h)

/- foliantref03.Next -/
def S_foliantref03_Next (t0 t1 : Value) (w : World) (K : Ending → World → Prop) : Prop :=
 DoX Tryz.prog (mAlloc 63) w (pk K) fun t4 w =>
 DoX Tryz.prog (mBin .lss 3 t1 (.int .i64 0)) w (pk K) fun t8 w =>
 GDo t8 false (fun E => E t1 w) w fun t10 w =>
 GDo t8 false (fun E => E t0 w) w fun t11 w =>
 GDo t8 false (fun E => DoX Tryz.prog (mB .len #[9] 3 #[false] #[t11]) w (pk K) E) w fun t12 w =>
 GDo t8 false (fun E => DoX Tryz.prog (mBin .gtr 3 t10 t12) w (pk K) E) w fun t13 w =>
 DoX Tryz.prog (mPick t8 (.bool true) t13) w (pk K) fun t14 w =>
 IfX t14 (DoX Tryz.prog (mBuild 63 #[]) w (pk K) fun t15 w =>
 DoX Tryz.prog (mStore 63 t4 t15) w (pk K) fun _ w =>
 RetX Tryz.prog [.cell t4 63, .val (.int .i64 1)] w K) (CallX Tryz.prog 85 #[t0, t1] w (pk K) fun t18 w =>
 DoX Tryz.prog (mB .len #[9] 3 #[false] #[t0]) w (pk K) fun t21 w =>
 DoX Tryz.prog (mBin .geq 3 t18 t21) w (pk K) fun t22 w =>
 IfX t22 (DoX Tryz.prog (mB .len #[9] 3 #[false] #[t0]) w (pk K) fun t24 w =>
 DoX Tryz.prog (mB .len #[9] 3 #[false] #[t0]) w (pk K) fun t26 w =>
 DoX Tryz.prog (mBuild 63 #[(0, (.int .i64 0)), (1, t24), (2, t26)]) w (pk K) fun t27 w =>
 DoX Tryz.prog (mStore 63 t4 t27) w (pk K) fun _ w =>
 RetX Tryz.prog [.cell t4 63, .val (.int .i64 0)] w K) (CallX Tryz.prog 86 #[t0, t18] w (pk K) fun t30 w =>
 DoX Tryz.prog (mExt t30 0) w (pk K) fun t31 w =>
 DoX Tryz.prog (mExt t30 1) w (pk K) fun t32 w =>
 DoX Tryz.prog (mStore 63 t4 t31) w (pk K) fun _ w =>
 RetX Tryz.prog [.cell t4 63, .val t32] w K))
theorem S_foliantref03_Next_eq (t0 t1 : Value) (w : World) (K : Ending → World → Prop) : wpX Tryz.prog 33 [] [] none (bodyOf Tryz.f46) (topQ Tryz.prog [.cell 4 63, .tmp 5] K) (startX [t0, t1]) [] w = S_foliantref03_Next t0 t1 w K := by kernel_rfl
theorem S_foliantref03_Next_ok {t0 t1 : Value} {w : World} {K : Ending → World → Prop} (h : S_foliantref03_Next t0 t1 w K) : Calls Tryz.prog 46 #[t0, t1] w K :=
  calls_of_wpX Tryz.func46 rfl rfl rfl rfl (Eq.mpr (S_foliantref03_Next_eq t0 t1 w K) h)

/- foliantref03.Upto -/
def S_foliantref03_Upto_1 (t7 t8 : Value) (w : World) (K : Ending → World → Prop) : Prop :=
 DoX Tryz.prog (mBuild 48 #[]) w (pk K) fun t47 w =>
 DoX Tryz.prog (mStore 48 t7 t47) w (pk K) fun _ w =>
 RetX Tryz.prog [.val t8, .cell t7 48] w K
/- foliantref03.All -/
/- foliantref03.Same -/
/- foliantref01.Digit -/
def S_foliantref01_Digit (t0 : Value) (w : World) (K : Ending → World → Prop) : Prop :=
 DoX Tryz.prog (mBin .geq 5 t0 (.int .u8 48)) w (pk K) fun t4 w =>
 GDo t4 true (fun E => E t0 w) w fun t6 w =>
 GDo t4 true (fun E => DoX Tryz.prog (mBin .leq 5 t6 (.int .u8 57)) w (pk K) E) w fun t7 w =>
 DoX Tryz.prog (mPick t4 t7 (.bool false)) w (pk K) fun t8 w =>
 IfX t8 (DoX Tryz.prog (mConv 5 3 t0) w (pk K) fun t10 w =>
 DoX Tryz.prog (mBin .sub 3 t10 (.int .i64 48)) w (pk K) fun t11 w =>
 K (.returned t11) w) (DoX Tryz.prog (mBin .geq 5 t0 (.int .u8 65)) w (pk K) fun t13 w =>
 GDo t13 true (fun E => E t0 w) w fun t15 w =>
 GDo t13 true (fun E => DoX Tryz.prog (mBin .leq 5 t15 (.int .u8 70)) w (pk K) E) w fun t16 w =>
 DoX Tryz.prog (mPick t13 t16 (.bool false)) w (pk K) fun t17 w =>
 IfX t17 (DoX Tryz.prog (mConv 5 3 t0) w (pk K) fun t19 w =>
 DoX Tryz.prog (mBin .sub 3 t19 (.int .i64 65)) w (pk K) fun t20 w =>
 DoX Tryz.prog (mBin .add 3 t20 (.int .i64 10)) w (pk K) fun t21 w =>
 K (.returned t21) w) (DoX Tryz.prog (mBin .geq 5 t0 (.int .u8 97)) w (pk K) fun t23 w =>
 GDo t23 true (fun E => E t0 w) w fun t25 w =>
 GDo t23 true (fun E => DoX Tryz.prog (mBin .leq 5 t25 (.int .u8 102)) w (pk K) E) w fun t26 w =>
 DoX Tryz.prog (mPick t23 t26 (.bool false)) w (pk K) fun t27 w =>
 IfX t27 (DoX Tryz.prog (mConv 5 3 t0) w (pk K) fun t29 w =>
 DoX Tryz.prog (mBin .sub 3 t29 (.int .i64 97)) w (pk K) fun t30 w =>
 DoX Tryz.prog (mBin .add 3 t30 (.int .i64 10)) w (pk K) fun t31 w =>
 K (.returned t31) w) (K (.returned (.int .i64 (-1))) w)))
theorem S_foliantref01_Digit_eq (t0 : Value) (w : World) (K : Ending → World → Prop) : wpX Tryz.prog 32 [] [] none (bodyOf Tryz.f147) (topQ Tryz.prog [.tmp 2] K) (startX [t0]) [] w = S_foliantref01_Digit t0 w K := by kernel_rfl
theorem S_foliantref01_Digit_ok {t0 : Value} {w : World} {K : Ending → World → Prop} (h : S_foliantref01_Digit t0 w K) : Calls Tryz.prog 147 #[t0] w K :=
  calls_of_wpX Tryz.func147 rfl rfl rfl rfl (Eq.mpr (S_foliantref01_Digit_eq t0 w K) h)

/- foliantref01.Unhex -/
def S_foliantref01_Unhex_0 (t0 t4 t5 : Value) (w : World) (N1 : List Value → World → Prop) (K : Ending → World → Prop) : Prop :=
 DoX Tryz.prog (mB .len #[9] 3 #[false] #[t0]) w (pk K) fun t14 w =>
 DoX Tryz.prog (mBin .lss 3 t5 t14) w (pk K) fun t15 w =>
 IfX t15 (QuietX w (fun C2 =>
 QDo Tryz.prog C2 (mIx 9 t0 t5) fun t20 =>
 QCall Tryz.prog C2 147 #[t20] fun t21 =>
 QDo Tryz.prog C2 (mBin .add 3 t5 (.int .i64 1)) fun t24 =>
 QDo Tryz.prog C2 (mIx 9 t0 t24) fun t25 =>
 QCall Tryz.prog C2 147 #[t25] fun t26 =>
 ∀ w, C2 w →
 DoX Tryz.prog (mBin .lss 3 t21 (.int .i64 0)) w (pk K) fun t28 w =>
 GDo t28 false (fun E => E t26 w) w fun t30 w =>
 GDo t28 false (fun E => DoX Tryz.prog (mBin .lss 3 t30 (.int .i64 0)) w (pk K) E) w fun t31 w =>
 DoX Tryz.prog (mPick t28 (.bool true) t31) w (pk K) fun t32 w =>
 IfX t32 (K (.returned (.tuple #[(.string ⟨#[]⟩), (.int .i64 3)])) w) (DoX Tryz.prog (mBin .mul 3 (.int .i64 16) t21) w (pk K) fun t35 w =>
 DoX Tryz.prog (mBin .add 3 t35 t26) w (pk K) fun t37 w =>
 DoX Tryz.prog (mConv 3 5 t37) w (pk K) fun t38 w =>
 DoX Tryz.prog (mBuildS 88 1 #[(0, t38)]) w (pk K) fun t39 w =>
 DoX Tryz.prog (mB .append #[88, 88] 88 #[false, false] #[t4, t39]) w (pk K) fun t40 w =>
 DoX Tryz.prog (mBin .add 3 t5 (.int .i64 2)) w (pk K) fun t17 w =>
 N1 [t40, t17] w))) (DoX Tryz.prog (mConv 88 9 t4) w (pk K) fun t42 w =>
 K (.returned (.tuple #[t42, (.int .i64 0)])) w)
def S_foliantref01_Unhex (t0 : Value) (w : World) (K : Ending → World → Prop) : Prop :=
 DoX Tryz.prog (mB .len #[9] 3 #[false] #[t0]) w (pk K) fun t9 w =>
 DoX Tryz.prog (mBin .rem 3 t9 (.int .i64 2)) w (pk K) fun t10 w =>
 DoX Tryz.prog (mEq .neq 3 (.tmp 10) (.const (.int .i64 0)) t10 (.int .i64 0)) w (pk K) fun t11 w =>
 IfX t11 (K (.returned (.tuple #[(.string ⟨#[]⟩), (.int .i64 3)])) w) (LoopX [(.slice none 0 0), (.int .i64 0)] w (fun vs1 w N1 => ∀ _ : Sg, S_foliantref01_Unhex_0 t0 (vs1.getD 0 undef) (vs1.getD 1 undef) w N1 K))
theorem S_foliantref01_Unhex_eq (t0 : Value) (w : World) (K : Ending → World → Prop) : wpX Tryz.prog 43 [] [(5, [4, 5])] none (bodyOf Tryz.f149) (topQ Tryz.prog [.tmp 2, .tmp 3] K) (startX [t0]) [] w = S_foliantref01_Unhex t0 w K := by kernel_rfl
theorem S_foliantref01_Unhex_ok {t0 : Value} {w : World} {K : Ending → World → Prop} (h : S_foliantref01_Unhex t0 w K) : Calls Tryz.prog 149 #[t0] w K :=
  calls_of_wpX Tryz.func149 rfl rfl rfl rfl (Eq.mpr (S_foliantref01_Unhex_eq t0 w K) h)

/- foliantref01.Begins -/
def S_foliantref01_Begins (t0 t1 t2 : Value) (w : World) (K : Ending → World → Prop) : Prop :=
 DoX Tryz.prog (mBin .geq 3 t2 (.int .i64 0)) w (pk K) fun t8 w =>
 GDo t8 true (fun E => E t2 w) w fun t10 w =>
 GDo t8 true (fun E => E t0 w) w fun t11 w =>
 GDo t8 true (fun E => DoX Tryz.prog (mB .len #[9] 3 #[false] #[t11]) w (pk K) E) w fun t12 w =>
 GDo t8 true (fun E => DoX Tryz.prog (mBin .leq 3 t10 t12) w (pk K) E) w fun t13 w =>
 DoX Tryz.prog (mPick t8 t13 (.bool false)) w (pk K) fun t14 w =>
 GDo t14 true (fun E => E t1 w) w fun t16 w =>
 GDo t14 true (fun E => DoX Tryz.prog (mB .len #[9] 3 #[false] #[t16]) w (pk K) E) w fun t17 w =>
 GDo t14 true (fun E => E t0 w) w fun t18 w =>
 GDo t14 true (fun E => DoX Tryz.prog (mB .len #[9] 3 #[false] #[t18]) w (pk K) E) w fun t19 w =>
 GDo t14 true (fun E => E t2 w) w fun t20 w =>
 GDo t14 true (fun E => DoX Tryz.prog (mBin .sub 3 t19 t20) w (pk K) E) w fun t21 w =>
 GDo t14 true (fun E => DoX Tryz.prog (mBin .leq 3 t17 t21) w (pk K) E) w fun t22 w =>
 DoX Tryz.prog (mPick t14 t22 (.bool false)) w (pk K) fun t23 w =>
 GDo t23 true (fun E => E t0 w) w fun t25 w =>
 GDo t23 true (fun E => E t2 w) w fun t26 w =>
 GDo t23 true (fun E => E t2 w) w fun t27 w =>
 GDo t23 true (fun E => E t1 w) w fun t28 w =>
 GDo t23 true (fun E => DoX Tryz.prog (mB .len #[9] 3 #[false] #[t28]) w (pk K) E) w fun t29 w =>
 GDo t23 true (fun E => DoX Tryz.prog (mBin .add 3 t27 t29) w (pk K) E) w fun t30 w =>
 GDo t23 true (fun E => DoX Tryz.prog (mSlice 9 t25 (some t26) (some t30) none) w (pk K) E) w fun t31 w =>
 GDo t23 true (fun E => E t1 w) w fun t32 w =>
 GDo t23 true (fun E => DoX Tryz.prog (mEq .eql 9 (.tmp 31) (.tmp 32) t31 t32) w (pk K) E) w fun t33 w =>
 DoX Tryz.prog (mPick t23 t33 (.bool false)) w (pk K) fun t34 w =>
 K (.returned t34) w
theorem S_foliantref01_Begins_eq (t0 t1 t2 : Value) (w : World) (K : Ending → World → Prop) : wpX Tryz.prog 35 [] [] none (bodyOf Tryz.f41) (topQ Tryz.prog [.tmp 6] K) (startX [t0, t1, t2]) [] w = S_foliantref01_Begins t0 t1 t2 w K := by kernel_rfl
theorem S_foliantref01_Begins_ok {t0 t1 t2 : Value} {w : World} {K : Ending → World → Prop} (h : S_foliantref01_Begins t0 t1 t2 w K) : Calls Tryz.prog 41 #[t0, t1, t2] w K :=
  calls_of_wpX Tryz.func41 rfl rfl rfl rfl (Eq.mpr (S_foliantref01_Begins_eq t0 t1 t2 w K) h)

/- foliantref01.Line -/
def S_foliantref01_Line_0 (t0 t5 : Value) (w : World) (N1 : List Value → World → Prop) (K : Ending → World → Prop) : Prop :=
 DoX Tryz.prog (mB .len #[9] 3 #[false] #[t0]) w (pk K) fun t18 w =>
 DoX Tryz.prog (mBin .lss 3 t5 t18) w (pk K) fun t19 w =>
 IfX t19 (CallX Tryz.prog 41 #[t0, (.string ⟨#[13, 10]⟩), t5] w (pk K) fun t24 w =>
 IfX t24 (DoX Tryz.prog (mBin .add 3 t5 (.int .i64 2)) w (pk K) fun t26 w =>
 K (.returned t26) w) (DoX Tryz.prog (mIx 9 t0 t5) w (pk K) fun t29 w =>
 DoX Tryz.prog (mEq .eql 5 (.tmp 29) (.const (.int .u8 13)) t29 (.int .u8 13)) w (pk K) fun t30 w =>
 GDo t30 false (fun E => E t0 w) w fun t32 w =>
 GDo t30 false (fun E => E t5 w) w fun t33 w =>
 GDo t30 false (fun E => DoX Tryz.prog (mIx 9 t32 t33) w (pk K) E) w fun t34 w =>
 GDo t30 false (fun E => DoX Tryz.prog (mEq .eql 5 (.tmp 34) (.const (.int .u8 10)) t34 (.int .u8 10)) w (pk K) E) w fun t35 w =>
 DoX Tryz.prog (mPick t30 (.bool true) t35) w (pk K) fun t36 w =>
 IfX t36 (DoX Tryz.prog (mBin .add 3 t5 (.int .i64 1)) w (pk K) fun t38 w =>
 K (.returned t38) w) (DoX Tryz.prog (mBin .add 3 t5 (.int .i64 1)) w (pk K) fun t21 w =>
 N1 [t21] w))) (DoX Tryz.prog (mB .len #[9] 3 #[false] #[t0]) w (pk K) fun t40 w =>
 K (.returned t40) w)
def S_foliantref01_Line (t0 t1 : Value) (w : World) (K : Ending → World → Prop) : Prop :=
 DoX Tryz.prog (mBin .lss 3 t1 (.int .i64 0)) w (pk K) fun t7 w =>
 GDo t7 false (fun E => E t1 w) w fun t9 w =>
 GDo t7 false (fun E => E t0 w) w fun t10 w =>
 GDo t7 false (fun E => DoX Tryz.prog (mB .len #[9] 3 #[false] #[t10]) w (pk K) E) w fun t11 w =>
 GDo t7 false (fun E => DoX Tryz.prog (mBin .gtr 3 t9 t11) w (pk K) E) w fun t12 w =>
 DoX Tryz.prog (mPick t7 (.bool true) t12) w (pk K) fun t13 w =>
 IfX t13 (K (.returned t1) w) (LoopX [t1] w (fun vs1 w N1 => ∀ _ : Sg, S_foliantref01_Line_0 t0 (vs1.getD 0 undef) w N1 K))
theorem S_foliantref01_Line_eq (t0 t1 : Value) (w : World) (K : Ending → World → Prop) : wpX Tryz.prog 41 [] [(4, [5])] none (bodyOf Tryz.f51) (topQ Tryz.prog [.tmp 4] K) (startX [t0, t1]) [] w = S_foliantref01_Line t0 t1 w K := by kernel_rfl
theorem S_foliantref01_Line_ok {t0 t1 : Value} {w : World} {K : Ending → World → Prop} (h : S_foliantref01_Line t0 t1 w K) : Calls Tryz.prog 51 #[t0, t1] w K :=
  calls_of_wpX Tryz.func51 rfl rfl rfl rfl (Eq.mpr (S_foliantref01_Line_eq t0 t1 w K) h)

/- foliantref01.Skip -/
def S_foliantref01_Skip_0 (t0 t1 : Value) (w : World) (N1 : List Value → World → Prop) (K : Ending → World → Prop) : Prop :=
 DoX Tryz.prog (mB .len #[9] 3 #[false] #[t0]) w (pk K) fun t16 w =>
 DoX Tryz.prog (mBin .lss 3 t1 t16) w (pk K) fun t17 w =>
 IfX t17 (DoX Tryz.prog (mIx 9 t0 t1) w (pk K) fun t20 w =>
 DoX Tryz.prog (mEq .eql 5 (.tmp 20) (.const (.int .u8 37)) t20 (.int .u8 37)) w (pk K) fun t21 w =>
 IfX t21 (CallX Tryz.prog 51 #[t0, t1] w (pk K) fun t24 w =>
 N1 [t24] w) (DoX Tryz.prog (mIx 9 t0 t1) w (pk K) fun t27 w =>
 CallX Tryz.prog 118 #[t27] w (pk K) fun t28 w =>
 IfX t28 (DoX Tryz.prog (mBin .add 3 t1 (.int .i64 1)) w (pk K) fun t30 w =>
 N1 [t30] w) (K (.returned t1) w))) (K (.returned t1) w)
def S_foliantref01_Skip (t0 t1 : Value) (w : World) (K : Ending → World → Prop) : Prop :=
 DoX Tryz.prog (mBin .lss 3 t1 (.int .i64 0)) w (pk K) fun t6 w =>
 GDo t6 false (fun E => E t1 w) w fun t8 w =>
 GDo t6 false (fun E => E t0 w) w fun t9 w =>
 GDo t6 false (fun E => DoX Tryz.prog (mB .len #[9] 3 #[false] #[t9]) w (pk K) E) w fun t10 w =>
 GDo t6 false (fun E => DoX Tryz.prog (mBin .gtr 3 t8 t10) w (pk K) E) w fun t11 w =>
 DoX Tryz.prog (mPick t6 (.bool true) t11) w (pk K) fun t12 w =>
 IfX t12 (K (.returned t1) w) (LoopX [t1] w (fun vs1 w N1 => ∀ _ : Sg, S_foliantref01_Skip_0 t0 (vs1.getD 0 undef) w N1 K))
theorem S_foliantref01_Skip_eq (t0 t1 : Value) (w : World) (K : Ending → World → Prop) : wpX Tryz.prog 33 [] [(3, [1])] none (bodyOf Tryz.f85) (topQ Tryz.prog [.tmp 4] K) (startX [t0, t1]) [] w = S_foliantref01_Skip t0 t1 w K := by kernel_rfl
theorem S_foliantref01_Skip_ok {t0 t1 : Value} {w : World} {K : Ending → World → Prop} (h : S_foliantref01_Skip t0 t1 w K) : Calls Tryz.prog 85 #[t0, t1] w K :=
  calls_of_wpX Tryz.func85 rfl rfl rfl rfl (Eq.mpr (S_foliantref01_Skip_eq t0 t1 w K) h)

end Go.Proofs.YtgffladaenimmaaGreatDoor
/- Contracts of foliantref01: Digit, Unhex, Begins, Line, Skip. -/
namespace Go.Proofs.YtgffladaenimmaaGreatDoor
set_option linter.unusedVariables false
set_option linter.unusedSimpArgs false
set_option linter.defProp false
open Eng Go.RowKit

 attribute [local congr] g_congr in
theorem rdigit_ret (c : UInt8) (w : World) : Ret Tryz.prog 147 #[.int .u8 c.toNat] w (fun v w' => v = .int .i64 (Lx.digit c) ∧ w = w') := by
  refine ret_of fun K hK => S_foliantref01_Digit_ok ?_
  unfold S_foliantref01_Digit
  have h256 := c.toNat_lt
  simp +contextual only [rs, gs]
  by_cases h1 : 48 ≤ c.toNat ∧ c.toNat ≤ 57
  · have hb : (decide ((48 : Int) ≤ (c.toNat : Int)) && decide ((c.toNat : Int) ≤ 57)) = true := by simp; omega
    simp only [hb, i_t]
    rw [c_64 (by omega) (by omega), b_sub, wrap64_id (by omega) (by omega)]
    exact hK _ _ ⟨by rw [Lx.digit, if_pos h1], rfl⟩
  have hb : (decide ((48 : Int) ≤ (c.toNat : Int)) && decide ((c.toNat : Int) ≤ 57)) = false := by
    rw [Bool.and_eq_false_iff, decide_eq_false_iff_not, decide_eq_false_iff_not]; omega
  simp only [hb, i_f]
  by_cases h2 : 65 ≤ c.toNat ∧ c.toNat ≤ 70
  · have hb : (decide ((65 : Int) ≤ (c.toNat : Int)) && decide ((c.toNat : Int) ≤ 70)) = true := by simp; omega
    simp only [hb, i_t]
    rw [c_64 (by omega) (by omega), b_sub, wrap64_id (by omega) (by omega), b_add, wrap64_id (by omega) (by omega)]
    exact hK _ _ ⟨by rw [Lx.digit, if_neg h1, if_pos h2], rfl⟩
  have hb : (decide ((65 : Int) ≤ (c.toNat : Int)) && decide ((c.toNat : Int) ≤ 70)) = false := by
    rw [Bool.and_eq_false_iff, decide_eq_false_iff_not, decide_eq_false_iff_not]; omega
  simp only [hb, i_f]
  by_cases h3 : 97 ≤ c.toNat ∧ c.toNat ≤ 102
  · have hb : (decide ((97 : Int) ≤ (c.toNat : Int)) && decide ((c.toNat : Int) ≤ 102)) = true := by simp; omega
    simp only [hb, i_t]
    rw [c_64 (by omega) (by omega), b_sub, wrap64_id (by omega) (by omega), b_add, wrap64_id (by omega) (by omega)]
    exact hK _ _ ⟨by rw [Lx.digit, if_neg h1, if_neg h2, if_pos h3], rfl⟩
  have hb : (decide ((97 : Int) ≤ (c.toNat : Int)) && decide ((c.toNat : Int) ≤ 102)) = false := by
    rw [Bool.and_eq_false_iff, decide_eq_false_iff_not, decide_eq_false_iff_not]; omega
  simp only [hb, i_f]
  exact hK _ _ ⟨by rw [Lx.digit, if_neg h1, if_neg h2, if_neg h3], rfl⟩
 attribute [local congr] g_congr in
theorem runhex_ret (s : List UInt8) (w : World) (hs : s.length ≤ 1099511627776) : Ret Tryz.prog 149 #[.string ⟨s.toArray⟩] w (fun v w' => v = .tuple #[.string ⟨(Lx.unhexE s).1.toArray⟩, .int .i64 (Lx.unhexE s).2] ∧ Below w.heap.size w w') := by
  refine ret_of fun K hK => S_foliantref01_Unhex_ok ?_
  unfold S_foliantref01_Unhex
  rw [s_len Tryz.underlying9, b_rem (by omega)]
  have hr : ((s.length : Int).tmod 2) = ((s.length % 2 : Nat) : Int) := by rw [Int.tmod_eq_emod_of_nonneg (by omega)]; omega
  rw [hr]
  by_cases hodd : s.length % 2 = 1
  · rw [hodd]
    have hu : ¬ ((1 : Nat) : Int) = 0 := by omega
    simp only [rs, hu, decide_true, decide_not, decide_false, Bool.not_false]
    exact hK _ _ ⟨by rw [unhexE_none (unhex_odd _ s (Nat.le_refl _) hodd)], (Own.start w).done⟩
  have heven : s.length % 2 = 0 := by omega
  rw [heven]
  simp only [rs, ne_eq, Int.natCast_zero, not_true, decide_false]
  refine loop (fun vs w' => ∃ (i : Nat) (v : Value) (acc : List UInt8), vs = [v, .int .i64 i] ∧ i ≤ s.length ∧ i % 2 = 0 ∧ acc.length ≤ i ∧ Lx.unhex s = (Lx.unhex (s.drop i)).map (acc ++ ·) ∧ Own w w' [BRow v acc])
    (fun vs _ => s.length - n1 vs) ⟨0, _, [], rfl, by omega, rfl, by simp, by simp, (Own.start w).nilRow _ 1⟩ ?_
  rintro vs w2 ⟨i, v, acc, rfl, hi, hi0, ha, he, ho⟩ _
  simp only [S_foliantref01_Unhex_0, gd, s_len Tryz.underlying9]
  rw [b_lss]
  by_cases hlt : (i : Int) < (s.length : Int)
  · have hi2 : i + 1 < s.length := by omega
    have hi3 : i < s.length := by omega
    simp only [hlt, decide_true, i_t]
    have b1 := Lx.digit_bd s[i]
    have b2 := Lx.digit_bd s[i + 1]
    have hw1 : IntKind.wrap .i64 ((i : Int) + 1) = ((i + 1 : Nat) : Int) := by rw [wrap64_id (by omega) (by omega)]; omega
    have hc1 : s[(i : Int).toNat]? = some s[i] := by simp [hi3]
    have hc2 : s[((i + 1 : Nat) : Int).toNat]? = some s[i + 1] := by rw [Int.toNat_natCast]; simp [hi2]
    refine quiet (q_do _ (fun w => run_s_ix (c := s[i]) Tryz.underlying9 (Int.natCast_nonneg i) hc1) ?_)
    refine q_call (.int .i64 (Lx.digit s[i])) (fun w hb => ret_same (rdigit_ret s[i] w) hb) ?_
    refine q_do (.int .i64 ((i + 1 : Nat) : Int)) (fun w => by rw [r_add, hw1]) ?_
    refine q_do _ (fun w => run_s_ix (c := s[i + 1]) Tryz.underlying9 (Int.natCast_nonneg _) hc2) ?_
    refine q_call (.int .i64 (Lx.digit s[i + 1])) (fun w hb => ret_same (rdigit_ret s[i + 1] w) hb) ?_
    intro w3 hb3
    have ho := ho.grow hb3
    rw [unhex_step hi2] at he
    simp +contextual only [rs, gs]
    by_cases hbad : Lx.digit s[i] < 0 ∨ Lx.digit s[i + 1] < 0
    · have hb : (decide (Lx.digit s[i] < 0) || decide (Lx.digit s[i + 1] < 0)) = true := by simpa using hbad
      simp only [hb, i_t]
      rw [if_pos hbad] at he
      exact hK _ _ ⟨by rw [unhexE_none he], ho.done⟩
    have hb : (decide (Lx.digit s[i] < 0) || decide (Lx.digit s[i + 1] < 0)) = false := by simpa using hbad
    simp only [hb, i_f]
    rw [if_neg hbad] at he
    rw [wrap64_id (n := 16 * Lx.digit s[i]) (by omega) (by omega), wrap64_id (by omega) (by omega), c_8, wrap8_id (by omega) (by omega)]
    refine o_app1 (Lx.byte (Lx.digit s[i]) (Lx.digit s[i + 1])) (byte_nat (by omega) (by omega) (by omega) (by omega)) ho (by omega) fun v' w4 ho => ?_
    rw [wrap64_id (by omega) (by omega)]
    refine nextX ⟨i + 2, v', _, rfl, by omega, by omega, by simp; omega, ?_, ho⟩ (by simp [n1, intOf]; omega)
    rw [he, Option.map_map]
    congr 1
    funext x; simp
  · have hi2 : i = s.length := by omega
    subst hi2
    simp only [hlt, decide_false, i_f]
    rw [o_strB 0 ho rfl]
    rw [List.drop_length, Lx.unhex, Option.map_some, List.append_nil] at he
    exact hK _ _ ⟨by rw [unhexE_some he], ho.done⟩
theorem prefix_take (p l : List UInt8) : p.isPrefixOf l = (decide (p.length ≤ l.length) && decide (l.take p.length = p)) := by
  rw [Bool.eq_iff_iff, List.isPrefixOf_iff_prefix, List.prefix_iff_eq_take]
  simp only [Bool.and_eq_true, decide_eq_true_eq]
  constructor
  · intro h
    have := congrArg List.length h
    rw [List.length_take] at this
    exact ⟨by omega, h.symm⟩
  · intro h; exact h.2.symm
theorem rbegins_ret (s p : List UInt8) (k : Int) (w : World) (hs : s.length ≤ 1099511627776) : Ret Tryz.prog 41 #[.string ⟨s.toArray⟩, .string ⟨p.toArray⟩, .int .i64 k] w (fun v w' => v = .bool (begins s p k) ∧ w = w') := by
  refine ret_of fun K hK => S_foliantref01_Begins_ok ?_
  unfold S_foliantref01_Begins
  by_cases h1 : 0 ≤ k
  · simp only [rs, h1, decide_true, s_len Tryz.underlying9]
    by_cases h2 : k ≤ (s.length : Int)
    · simp only [rs, h2, decide_true, s_len Tryz.underlying9]
      rw [wrap64_id (by omega) (by omega)]
      have hpt := prefix_take p (s.drop k.toNat)
      rw [List.length_drop] at hpt
      by_cases h3 : (p.length : Int) ≤ (s.length : Int) - k
      · simp only [rs, h3, decide_true, s_len Tryz.underlying9]
        rw [wrap64_id (by omega) (by omega), s_slice Tryz.underlying9 h1 (by omega) (by omega), show (k + (p.length : Int)).toNat - k.toNat = p.length by omega]
        simp only [rs]
        rw [decide_eq_true (show p.length ≤ s.length - k.toNat by omega), Bool.true_and] at hpt
        exact hK _ _ ⟨by simp only [begins, h1, h2, decide_true, Bool.true_and, hpt], rfl⟩
      · simp only [rs, h3, decide_false, g_un]
        rw [decide_eq_false (show ¬ p.length ≤ s.length - k.toNat by omega), Bool.false_and] at hpt
        exact hK _ _ ⟨by simp only [begins, h1, h2, decide_true, Bool.true_and, hpt], rfl⟩
    · simp only [rs, h2, decide_false, g_un]
      exact hK _ _ ⟨by simp [begins, h2], rfl⟩
  · simp only [rs, h1, decide_false, g_un]
    exact hK _ _ ⟨by simp [begins, h1], rfl⟩
theorem not13_begins (s : List UInt8) (k : Nat) (hk : k < s.length) (h : s[k] ≠ 13) : begins s [13, 10] (k : Int) = false := by
  unfold begins
  rw [Int.toNat_natCast, Lx.drop_cons hk]
  have : ((13 : UInt8) == s[k]) = false := by simpa using fun e : 13 = s[k] => h e.symm
  simp [List.isPrefixOf, this]
theorem rline_ret (s : List UInt8) (k : Nat) (w : World) (hk : k ≤ s.length) (hs : s.length ≤ 1099511627776) : Ret Tryz.prog 51 #[.string ⟨s.toArray⟩, .int .i64 k] w (fun v w' => v = .int .i64 (Lx.line s k) ∧ w = w') := by
  refine ret_of fun K hK => S_foliantref01_Line_ok ?_
  unfold S_foliantref01_Line
  have h0 : ¬ ((k : Int) < 0) := by omega
  have h1 : ¬ ((s.length : Int) < (k : Int)) := by omega
  simp only [rs, h0, h1, decide_false, s_len Tryz.underlying9]
  refine loop (fun vs w' => ∃ (i : Nat), vs = [.int .i64 i] ∧ i ≤ s.length ∧ Lx.line s i = Lx.line s k ∧ w = w') (fun vs _ => s.length - n0 vs) ⟨k, rfl, hk, rfl, rfl⟩ ?_
  rintro vs w2 ⟨i, rfl, hi, he, rfl⟩ _
  simp only [S_foliantref01_Line_0, gd, s_len Tryz.underlying9]
  rw [b_lss]
  by_cases hlt : (i : Int) < (s.length : Int)
  · have hi2 : i < s.length := by omega
    simp only [hlt, decide_true, i_t]
    have hd := Lx.drop_cons hi2
    have e1 := u8d s[i] 13 13 rfl
    have e2 := u8d s[i] 10 10 rfl
    refine c_eq (rbegins_ret s [13, 10] i w hs) ?_
    by_cases g2 : s[i] = 13
    · rw [crlf_begins s i hi2 g2]
      have g1 : ¬ s[i] = 10 := by rw [g2]; decide
      by_cases g3 : (s.drop (i + 1)).head? = some 10
      · simp only [decide_eq_true g3, i_t, rs]
        rw [wrap64_id (by omega) (by omega)]
        refine hK _ _ ⟨?_, rfl⟩
        rw [← he, Lx.line, hd, Lx.lineF, if_neg g1, if_pos g2, if_pos g3]; simp
      · simp only [decide_eq_false g3, i_f, s_at hi2, rs, e1, decide_eq_true g2, g_un]
        rw [wrap64_id (by omega) (by omega)]
        refine hK _ _ ⟨?_, rfl⟩
        rw [← he, Lx.line, hd, Lx.lineF, if_neg g1, if_pos g2, if_neg g3]; simp
    rw [not13_begins s i hi2 g2]
    simp only [i_f, s_at hi2, rs, e1, decide_eq_false g2]
    by_cases g1 : s[i] = 10
    · simp only [rs, s_at hi2, e2, decide_eq_true g1]
      rw [wrap64_id (by omega) (by omega)]
      refine hK _ _ ⟨?_, rfl⟩
      rw [← he, Lx.line, hd, Lx.lineF, if_pos g1]; simp
    simp only [rs, s_at hi2, e2, decide_eq_false g1]
    rw [wrap64_id (by omega) (by omega)]
    refine nextX ⟨i + 1, rfl, by omega, ?_, rfl⟩ (by simp [n0, intOf]; omega)
    rw [← he]
    simp only [Lx.line]
    rw [hd, Lx.lineF, if_neg g1, if_neg g2]; omega
  · have hi2 : i = s.length := by omega
    subst hi2
    simp only [hlt, decide_false, i_f]
    refine hK _ _ ⟨?_, rfl⟩
    rw [← he, Lx.line, List.drop_length]; simp [Lx.lineF]
theorem rskip_ret (s : List UInt8) (k : Int) (w : World) (hs : s.length ≤ 1099511627776) : Ret Tryz.prog 85 #[.string ⟨s.toArray⟩, .int .i64 k] w (fun v w' => v = .int .i64 (Lx.skipI s k) ∧ w = w') := by
  refine ret_of fun K hK => S_foliantref01_Skip_ok ?_
  unfold S_foliantref01_Skip
  by_cases h0 : k < 0
  · simp only [rs, h0, decide_true, g_un]
    exact hK _ _ ⟨by rw [Lx.skipI, if_pos (.inl h0)], rfl⟩
  simp only [rs, h0, decide_false, s_len Tryz.underlying9]
  by_cases h1 : (s.length : Int) < k
  · simp only [rs, h1, decide_true]
    exact hK _ _ ⟨by rw [Lx.skipI, if_pos (.inr h1)], rfl⟩
  simp only [rs, h1, decide_false]
  have hsk : Lx.skipI s k = ((Lx.skip s k.toNat : Nat) : Int) := by rw [Lx.skipI, if_neg (by omega)]
  refine loop (fun vs w' => ∃ (i : Nat), vs = [.int .i64 i] ∧ i ≤ s.length ∧ Lx.skip s i = Lx.skip s k.toNat ∧ w = w') (fun vs _ => s.length - n0 vs) ⟨k.toNat, by rw [Int.toNat_of_nonneg (by omega)], by omega, rfl, rfl⟩ ?_
  rintro vs w2 ⟨i, rfl, hi, he, rfl⟩ _
  simp only [S_foliantref01_Skip_0, gd, s_len Tryz.underlying9]
  rw [b_lss]
  by_cases hlt : (i : Int) < (s.length : Int)
  · have hi2 : i < s.length := by omega
    have hd := Lx.drop_cons hi2
    simp only [hlt, decide_true, i_t, s_at hi2]
    have e1 := u8d s[i] 37 37 rfl
    have hL := Lx.lineF_le (s.drop i)
    have hP := Lx.lineF_pos s[i] (s.drop (i + 1))
    rw [← hd] at hP
    rw [List.length_drop] at hL
    by_cases g1 : s[i] = 37
    · simp only [rs, e1, decide_eq_true g1]
      refine c_eq (rline_ret s i w (by omega) hs) ?_
      refine nextX ⟨Lx.line s i, rfl, by unfold Lx.line; omega, ?_, rfl⟩ (by simp [n0, intOf, Lx.line]; omega)
      rw [← he]
      simp only [Lx.skip]
      have e2 : Lx.skipF false (s.drop i) = Lx.lineF (s.drop i) + Lx.skipF false ((s.drop i).drop (Lx.lineF (s.drop i))) := by
        rw [hd, Lx.skipF, if_pos g1, Lx.skipF_line, Lx.lineF, if_neg (by rw [g1]; decide), if_neg (by rw [g1]; decide), Nat.add_comm 1 (Lx.lineF _), List.drop_succ_cons]; omega
      rw [e2, List.drop_drop, Lx.line]; omega
    simp only [rs, e1, decide_eq_false g1, s_at hi2]
    refine c_eq (rwhite_ret s[i] w) ?_
    cases hw : Oc.white s[i] with
    | true =>
      simp only [rs]
      rw [wrap64_id (by omega) (by omega)]
      refine nextX ⟨i + 1, rfl, by omega, ?_, rfl⟩ (by simp [n0, intOf]; omega)
      rw [← he]
      simp only [Lx.skip]
      rw [hd, Lx.skipF, if_neg g1, if_pos hw]; omega
    | false =>
      simp only [rs]
      refine hK _ _ ⟨?_, rfl⟩
      rw [hsk, ← he, Lx.skip, hd, Lx.skipF, if_neg g1, if_neg (by simp [hw])]; simp
  · have hi2 : i = s.length := by omega
    subst hi2
    simp only [hlt, decide_false, i_f]
    refine hK _ _ ⟨?_, rfl⟩
    rw [hsk, ← he, Lx.skip, List.drop_length]; simp [Lx.skipF]
end Go.Proofs.YtgffladaenimmaaGreatDoor
/- Plain mathematics of layer 3: where tokens end; lists of tokens. -/
namespace Go.Proofs.YtgffladaenimmaaGreatDoor
set_option linter.unusedVariables false
set_option linter.unusedSimpArgs false
set_option linter.defProp false
open Go
namespace Lx
open Oc
theorem hexF_le : ∀ (l : List UInt8) (h : Int) (r : List UInt8 × Nat), hexF h l = .inl r → 1 ≤ r.2 ∧ r.2 ≤ l.length
  | [], _, r, h => by rw [hexF] at h; cases h
  | c :: t, h, r, he => by
    rw [hexF] at he
    have step : ∀ h', (∀ r, hexF h' t = .inl r → 1 ≤ r.2 ∧ r.2 ≤ t.length) := fun h' r hr => hexF_le t h' r hr
    split at he
    · cases he; simp
    · split at he
      · cases hh : hexF h t with
        | inr e => rw [hh] at he; cases he
        | inl q => rw [hh] at he; cases he; have := step _ q hh; simp; omega
      · split at he
        · cases he
        · split at he
          · cases hh : hexF (digit c) t with
            | inr e => rw [hh] at he; cases he
            | inl q => rw [hh] at he; cases he; have := step _ q hh; simp; omega
          · cases hh : hexF (-1) t with
            | inr e => rw [hh] at he; cases he
            | inl q => rw [hh] at he; cases he; have := step _ q hh; simp; omega
theorem textG_le : ∀ (l : List UInt8) (k o : Nat) (r : List UInt8 × Nat), textG k o l = some r → 1 ≤ r.2 ∧ r.2 ≤ l.length
  | [], k, o, r, h => by
    cases k <;> (rw [textG] at h; cases h)
  | c :: t, k + 1, o, r, h => by
    rw [textG] at h
    cases hh : textG k o t with
    | none => rw [hh] at h; cases h
    | some q => rw [hh] at h; cases h; have := textG_le t k o q hh; simp; omega
  | c :: t, 0, o, r, h => by
    rw [textG] at h
    have step : ∀ (k o : Nat) (f : List UInt8 → List UInt8), (textG k o t).map (fun r => (f r.1, r.2 + 1)) = some r → 1 ≤ r.2 ∧ r.2 ≤ (c :: t).length := by
      intro k o f h
      cases hh : textG k o t with
      | none => rw [hh] at h; cases h
      | some q => rw [hh] at h; cases h; have := textG_le t k o q hh; simp; omega
    split at h
    · exact step _ _ _ h
    · split at h
      · split at h
        · cases h
        · exact step _ _ _ h
      · split at h
        · exact step _ _ (fun x => c :: x) h
        · split at h
          · split at h
            · cases h; simp
            · exact step _ _ (fun x => c :: x) h
          · exact step _ _ (fun x => c :: x) h
theorem told_ok {k a t : Int} {x : List UInt8} {m : Int} (h : (told k a t x m).2 = 0) : told k a t x m = (⟨k, a, t, 0, x⟩, 0) := by
  unfold told at h ⊢
  split
  · rename_i hh; rw [if_pos hh] at h; cases h
  · rfl
theorem skipF_stop : ∀ (b : Bool) (l : List UInt8), skipF false (l.drop (skipF b l)) = 0
  | _, [] => by simp [skipF]
  | true, c :: t => by
    simp only [skipF]
    rw [Nat.add_comm, List.drop_succ_cons]
    exact skipF_stop _ t
  | false, c :: t => by
    simp only [skipF]
    split
    · rw [Nat.add_comm, List.drop_succ_cons]; exact skipF_stop _ t
    · split
      · rw [Nat.add_comm, List.drop_succ_cons]; exact skipF_stop _ t
      · rename_i h1 h2
        rw [List.drop_zero, skipF, if_neg h1, if_neg h2]
theorem skip_stop (s : List UInt8) (k : Nat) : skipF false (s.drop (skip s k)) = 0 := by
  have := skipF_stop false (s.drop k)
  rw [List.drop_drop] at this
  exact this
theorem skip_skip (s : List UInt8) (k : Nat) : skip s (skip s k) = skip s k := by
  have := skip_stop s k
  show skip s k + skipF false (s.drop (skip s k)) = skip s k
  rw [this]; rfl
theorem stop_head {c : UInt8} {t : List UInt8} (h : skipF false (c :: t) = 0) : c ≠ 37 ∧ white c = false := by
  rw [skipF] at h
  split at h
  · omega
  · rename_i h1
    split at h
    · omega
    · rename_i h2
      exact ⟨h1, by simpa using h2⟩
theorem regular_of (c : UInt8) (hw : white c = false) (h1 : ¬ (c = 91 ∨ c = 93 ∨ c = 123 ∨ c = 125)) (h2 : c ≠ 60) (h3 : c ≠ 62) (h4 : c ≠ 47) (h5 : c ≠ 40) (h6 : c ≠ 41) (h7 : c ≠ 37) : regular c = true := by
  have g1 : ¬ c = 91 := fun e => h1 (.inl e)
  have g2 : ¬ c = 93 := fun e => h1 (.inr (.inl e))
  have g3 : ¬ c = 123 := fun e => h1 (.inr (.inr (.inl e)))
  have g4 : ¬ c = 125 := fun e => h1 (.inr (.inr (.inr e)))
  simp [regular, hw, delim, delims, g1, g2, g3, g4, h2, h3, h4, h5, h6, h7]
theorem wordT_ok {t : List UInt8} {a r : Int} (h : (wordT t a r).2 = 0) : (wordT t a r).1.k ≠ 0 ∧ (wordT t a r).1.a = a ∧ (wordT t a r).1.t = r := by
  unfold wordT at h ⊢
  split at h
  · rename_i h1
    rw [if_pos h1]
    split at h
    · rename_i h2; exact absurd h h2
    · rename_i h2; rw [if_neg h2]; exact ⟨by simp, rfl, rfl⟩
  · rename_i h1
    rw [if_neg h1]
    split at h
    · rename_i h2; rw [if_pos h2]; exact ⟨by simp, rfl, rfl⟩
    · rename_i h2
      rw [if_neg h2]
      split at h
      · cases h
      · rename_i h3
        rw [if_neg h3, told_ok h]
        exact ⟨by simp, rfl, rfl⟩
/-- Where a token stands. -/
theorem token_bd {s : List UInt8} {a : Nat} (ha : a < s.length) (hsk : skipF false (s.drop a) = 0) (h : (token s a).2 = 0) : (token s a).1.k ≠ 0 ∧ (token s a).1.a = a ∧ (a : Int) < (token s a).1.t ∧ (token s a).1.t ≤ s.length := by
  have hd := drop_cons ha
  have hT : token s a = if s[a] = 91 ∨ s[a] = 93 ∨ s[a] = 123 ∨ s[a] = 125 then mark s a 1
    else if s[a] = 60 then (if (s.drop (a + 1)).head? = some s[a] then mark s a 2 else hex s a)
    else if s[a] = 62 then (if (s.drop (a + 1)).head? = some s[a] then mark s a 2 else refused 3)
    else if s[a] = 47 then name s a
    else if s[a] = 40 then text s a
    else if s[a] = 41 then refused 3
    else word s a := by rw [token, hd]
  rw [hd] at hsk
  obtain ⟨h37, hw⟩ := stop_head hsk
  have two : (s.drop (a + 1)).head? = some s[a] → a + 2 ≤ s.length := by
    intro h
    cases hdd : s.drop (a + 1) with
    | nil => rw [hdd] at h; cases h
    | cons x t =>
      have := congrArg List.length hdd
      simp at this; omega
  rw [hT] at h ⊢
  by_cases g0 : s[a] = 91 ∨ s[a] = 93 ∨ s[a] = 123 ∨ s[a] = 125
  · rw [if_pos g0]; exact ⟨by simp [mark], rfl, by simp only [mark]; omega, by simp only [mark]; omega⟩
  rw [if_neg g0] at h ⊢
  by_cases g1 : s[a] = 60
  · rw [if_pos g1] at h ⊢
    by_cases g : (s.drop (a + 1)).head? = some s[a]
    · have := two g
      rw [if_pos g]; exact ⟨by simp [mark], rfl, by simp only [mark]; omega, by simp only [mark]; omega⟩
    · rw [if_neg g] at h ⊢
      unfold hex at h ⊢
      cases hh : hexF (-1) (s.drop (a + 1)) with
      | inr e =>
        rw [hh] at h
        exfalso
        have : ∀ (l : List UInt8) (x e : Int), hexF x l = .inr e → e ≠ 0 := by
          intro l
          induction l with
          | nil => intro x e he; rw [hexF] at he; cases he; decide
          | cons c t ih =>
            intro x e he
            rw [hexF] at he
            split at he
            · cases he
            · split at he
              · cases hq : hexF x t with
                | inl r => rw [hq] at he; cases he
                | inr e' => rw [hq] at he; cases he; exact ih _ _ hq
              · split at he
                · cases he; decide
                · split at he
                  · cases hq : hexF (digit c) t with
                    | inl r => rw [hq] at he; cases he
                    | inr e' => rw [hq] at he; cases he; exact ih _ _ hq
                  · cases hq : hexF (-1) t with
                    | inl r => rw [hq] at he; cases he
                    | inr e' => rw [hq] at he; cases he; exact ih _ _ hq
        exact this _ _ _ hh h
      | inl r =>
        rw [hh] at h
        simp only at h ⊢
        have := hexF_le _ _ _ hh
        rw [List.length_drop] at this
        rw [told_ok h]
        exact ⟨by simp, rfl, by simp only; omega, by simp only; omega⟩
  rw [if_neg g1] at h ⊢
  by_cases g2 : s[a] = 62
  · rw [if_pos g2] at h ⊢
    by_cases g : (s.drop (a + 1)).head? = some s[a]
    · have := two g
      rw [if_pos g]; exact ⟨by simp [mark], rfl, by simp only [mark]; omega, by simp only [mark]; omega⟩
    · rw [if_neg g] at h; cases h
  rw [if_neg g2] at h ⊢
  by_cases g3 : s[a] = 47
  · rw [if_pos g3] at h ⊢
    have hto := run_le s (show a + 1 ≤ s.length by omega)
    have hto2 : a + 1 ≤ run s (a + 1) := by unfold run; omega
    unfold name at h ⊢
    cases hh : nameF (cut s (a + 1) (run s (a + 1))) with
    | none => rw [hh] at h; cases h
    | some x =>
      rw [hh] at h
      simp only at h ⊢
      rw [told_ok h]
      exact ⟨by simp, rfl, by simp only; omega, by simp only; omega⟩
  rw [if_neg g3] at h ⊢
  by_cases g4 : s[a] = 40
  · rw [if_pos g4] at h ⊢
    unfold text at h ⊢
    cases hh : textG 0 1 (s.drop (a + 1)) with
    | none => rw [hh] at h; cases h
    | some r =>
      rw [hh] at h
      simp only at h ⊢
      have := textG_le _ _ _ _ hh
      rw [List.length_drop] at this
      rw [told_ok h]
      exact ⟨by simp, rfl, by simp only; omega, by simp only; omega⟩
  rw [if_neg g4] at h ⊢
  by_cases g5 : s[a] = 41
  · rw [if_pos g5] at h; cases h
  rw [if_neg g5] at h ⊢
  have hreg := regular_of s[a] hw g0 g1 g2 g3 g4 g5 h37
  have hto := run_le s (show a ≤ s.length by omega)
  have hto2 : a < run s a := by unfold run; rw [hd, runF, if_pos hreg]; omega
  obtain ⟨k1, k2, k3⟩ := wordT_ok h
  exact ⟨k1, k2, by rw [show (word s a).1.t = _ from k3]; omega, by rw [show (word s a).1.t = _ from k3]; omega⟩
theorem next_bd {s : List UInt8} {i : Int} (h : (next s i).2 = 0) (hk : (next s i).1.k ≠ 0) : 0 ≤ i ∧ i ≤ s.length ∧ (next s i).1.a = skip s i.toNat ∧ (next s i).1.a < (next s i).1.t ∧ (next s i).1.t ≤ s.length := by
  unfold next at h hk ⊢
  split
  · rename_i hh; rw [if_pos hh] at h; cases h
  · rename_i hh
    rw [if_neg hh] at h hk
    have hle := skip_le s (k := i.toNat) (by omega)
    rcases Nat.lt_or_ge (skip s i.toNat) s.length with h1 | h1
    · have := token_bd h1 (skip_stop s i.toNat) h
      exact ⟨by omega, by omega, this.2.1, by rw [this.2.1]; exact this.2.2.1, this.2.2.2⟩
    · exfalso
      rw [token, List.drop_eq_nil_of_le h1] at hk
      exact hk rfl
theorem skip_ge (s : List UInt8) (k : Nat) : k ≤ skip s k := by unfold skip; omega
/-- From a on the tokens l are read, up to b. -/
def Steps (s : List UInt8) (a : Int) (l : List Tok) (b : Int) : Prop := ∀ m, upto s (l.length + m) a = match upto s m b with | .inl r => .inl (l ++ r) | .inr f => .inr f
theorem Steps.nil (s : List UInt8) (a : Int) : Steps s a [] a := by
  intro m
  rw [List.length_nil, Nat.zero_add]
  cases upto s m a <;> rfl
theorem Steps.snoc {s : List UInt8} {a b : Int} {l : List Tok} (h : Steps s a l b) (h1 : (next s b).2 = 0) (h2 : (next s b).1.k ≠ 0) : Steps s a (l ++ [(next s b).1]) (next s b).1.t := by
  intro m
  have := h (m + 1)
  rw [List.length_append, List.length_singleton, Nat.add_assoc, Nat.add_comm 1 m, this]
  rw [upto, if_neg (by rw [h1]; simp), if_neg h2]
  cases upto s m (next s b).1.t <;> simp
theorem Steps.fin {s : List UInt8} {a b : Int} {l : List Tok} (h : Steps s a l b) (m : Nat) : upto s (l.length + m) a = match upto s m b with | .inl r => .inl (l ++ r) | .inr f => .inr f := h m
end Lx
end Go.Proofs.YtgffladaenimmaaGreatDoor
/- Plain mathematics of layer 3: a token cut alone is the same token. -/
namespace Go.Proofs.YtgffladaenimmaaGreatDoor
set_option linter.unusedVariables false
set_option linter.unusedSimpArgs false
set_option linter.defProp false
open Go
namespace Lx
open Oc
theorem head_take {t : List UInt8} {n : Nat} (h : 1 ≤ n) : (t.take n).head? = t.head? := by
  cases t with
  | nil => simp
  | cons c t => obtain ⟨m, rfl⟩ : ∃ m, n = m + 1 := ⟨n - 1, by omega⟩; rfl
theorem take_cons {c : UInt8} {t : List UInt8} {n : Nat} (h : 1 ≤ n) : (c :: t).take n = c :: t.take (n - 1) := by
  obtain ⟨m, rfl⟩ : ∃ m, n = m + 1 := ⟨n - 1, by omega⟩; rfl
theorem lineF_take {c : UInt8} {t : List UInt8} {n : Nat} (he : eol c = true) (h : 1 ≤ n) : lineF (c :: t.take n) = lineF (c :: t) := by
  simp only [lineF, head_take h]
  by_cases h1 : c = 10
  · simp [h1]
  · by_cases h2 : c = 13
    · simp [h2]
    · simp [eol, h1, h2] at he
theorem octF_take : ∀ (m n : Nat) (l : List UInt8) (k : Nat), (octF m n l).2 + 1 ≤ k → octF m n (l.take k) = octF m n l
  | 0, n, l, k, h => by simp [octF]
  | m + 1, n, [], k, h => by simp
  | m + 1, n, c :: t, k, h => by
    have hk : 1 ≤ k := by omega
    rw [take_cons hk]
    simp only [octF] at h ⊢
    by_cases ho : oct c = true
    · rw [if_pos ho] at h ⊢
      rw [if_pos ho]
      simp only at h
      rw [octF_take m _ t (k - 1) (by omega)]
    · rw [if_neg ho, if_neg ho]
theorem escF_take {l : List UInt8} {k : Nat} (h : (escF l).2 + 1 ≤ k) : escF (l.take k) = escF l := by
  cases l with
  | nil => simp
  | cons c t =>
    have hk : 1 ≤ k := by omega
    rw [take_cons hk]
    simp only [escF] at h ⊢
    cases hl : escL c with
    | some b => rfl
    | none =>
      simp only [hl] at h ⊢
      by_cases he : eol c = true
      · rw [if_pos he] at h ⊢
        rw [if_pos he]
        have hp := lineF_pos c t
        simp only at h
        rw [lineF_take he (by omega)]
      · rw [if_neg he] at h ⊢
        rw [if_neg he]
        have h3 : (octF 3 0 (c :: t)).2 + 1 ≤ k := by
          by_cases h0 : 0 < (octF 3 0 (c :: t)).2
          · rw [if_pos h0] at h; exact h
          · omega
        have ht := octF_take 3 0 (c :: t) k h3
        rw [take_cons hk] at ht
        rw [ht]
theorem textG_ge : ∀ (l : List UInt8) (k o : Nat) (r : List UInt8 × Nat), textG k o l = some r → k + 1 ≤ r.2
  | [], k, o, r, h => by cases k <;> (rw [textG] at h; cases h)
  | c :: t, 0, o, r, h => by have := textG_le _ _ _ _ h; omega
  | c :: t, k + 1, o, r, h => by
    rw [textG] at h
    cases hh : textG k o t with
    | none => rw [hh] at h; cases h
    | some q => rw [hh] at h; cases h; have := textG_ge t k o q hh; simp; omega
theorem map_some {α β : Type} {f : α → β} {x : Option α} {r : β} (h : x.map f = some r) : ∃ q, x = some q ∧ r = f q := by
  cases x with
  | none => cases h
  | some q => cases h; exact ⟨q, rfl, rfl⟩
theorem textG_take : ∀ (l : List UInt8) (k o : Nat) (r : List UInt8 × Nat), textG k o l = some r → textG k o (l.take r.2) = some r
  | [], k, o, r, h => by cases k <;> (rw [textG] at h; cases h)
  | c :: t, k + 1, o, r, h => by
    rw [textG] at h
    obtain ⟨q, hq, rfl⟩ := map_some h
    rw [take_cons (by simp), textG]
    simp only [Nat.add_sub_cancel]
    rw [textG_take t k o q hq]; rfl
  | c :: t, 0, o, r, h => by
    have h1 := (textG_le _ _ _ _ h).1
    rw [take_cons h1]
    rw [textG] at h ⊢
    by_cases g1 : eol c = true
    · rw [if_pos g1] at h ⊢
      obtain ⟨q, hq, rfl⟩ := map_some h
      have h2 := textG_ge _ _ _ _ hq
      simp only [Nat.add_sub_cancel]
      rw [lineF_take g1 (by omega), textG_take t _ o q hq]; rfl
    · rw [if_neg g1] at h ⊢
      by_cases g2 : c = 92
      · rw [if_pos g2] at h ⊢
        by_cases g3 : t = []
        · rw [if_pos g3] at h; cases h
        · rw [if_neg g3] at h
          obtain ⟨q, hq, rfl⟩ := map_some h
          have h2 := textG_ge _ _ _ _ hq
          simp only [Nat.add_sub_cancel]
          rw [escF_take (by omega), textG_take t _ o q hq, if_neg]
          · rfl
          · intro e
            have := textG_le _ _ _ _ hq
            cases t with
            | nil => exact g3 rfl
            | cons d t => rw [take_cons (by omega)] at e; cases e
      · rw [if_neg g2] at h ⊢
        by_cases g4 : c = 40
        · rw [if_pos g4] at h ⊢
          obtain ⟨q, hq, rfl⟩ := map_some h
          simp only [Nat.add_sub_cancel]
          rw [textG_take t _ _ q hq]; rfl
        · rw [if_neg g4] at h ⊢
          by_cases g5 : c = 41
          · rw [if_pos g5] at h ⊢
            by_cases g6 : o ≤ 1
            · rw [if_pos g6] at h ⊢
              exact h
            · rw [if_neg g6] at h ⊢
              obtain ⟨q, hq, rfl⟩ := map_some h
              simp only [Nat.add_sub_cancel]
              rw [textG_take t _ _ q hq]; rfl
          · rw [if_neg g5] at h ⊢
            obtain ⟨q, hq, rfl⟩ := map_some h
            simp only [Nat.add_sub_cancel]
            rw [textG_take t _ _ q hq]; rfl
theorem hexF_take : ∀ (l : List UInt8) (h : Int) (r : List UInt8 × Nat), hexF h l = .inl r → hexF h (l.take r.2) = .inl r
  | [], _, r, h => by rw [hexF] at h; cases h
  | c :: t, h, r, he => by
    have h1 := (hexF_le _ _ _ he).1
    rw [take_cons h1]
    rw [hexF] at he ⊢
    have step : ∀ (h' : Int) (f : List UInt8 → List UInt8), (match hexF h' t with | .inl r => (Sum.inl (f r.1, r.2 + 1) : (List UInt8 × Nat) ⊕ Int) | .inr e => .inr e) = .inl r →
        (match hexF h' (t.take (r.2 - 1)) with | .inl r => (Sum.inl (f r.1, r.2 + 1) : (List UInt8 × Nat) ⊕ Int) | .inr e => .inr e) = .inl r := by
      intro h' f hh
      cases hq : hexF h' t with
      | inr e => rw [hq] at hh; cases hh
      | inl q =>
        rw [hq] at hh
        cases hh
        simp only [Nat.add_sub_cancel]
        rw [hexF_take t h' q hq]
    by_cases g1 : c = 62
    · rw [if_pos g1] at he ⊢; exact he
    · rw [if_neg g1] at he ⊢
      by_cases g2 : white c = true
      · rw [if_pos g2] at he ⊢
        exact step h (fun x => x) he
      · rw [if_neg g2] at he ⊢
        by_cases g3 : digit c < 0
        · rw [if_pos g3] at he; cases he
        · rw [if_neg g3] at he ⊢
          by_cases g4 : h < 0
          · rw [if_pos g4] at he ⊢
            exact step (digit c) (fun x => x) he
          · rw [if_neg g4] at he ⊢
            exact step (-1) (fun x => byte h (digit c) :: x) he
theorem runF_take : ∀ l : List UInt8, (l.take (runF l)).all regular = true ∧ runF (l.take (runF l)) = runF l
  | [] => by simp [runF]
  | c :: t => by
    obtain ⟨i1, i2⟩ := runF_take t
    simp only [runF]
    by_cases h : regular c = true
    · rw [if_pos h, take_cons (by omega), Nat.add_sub_cancel_left]
      simp only [runF, i2, List.all_cons, h, i1, Bool.and_self, if_true, and_self]
    · rw [if_neg h]; simp [runF]
theorem wordT_move {t : List UInt8} {a r : Int} (h : (wordT t a r).2 = 0) (b q : Int) : wordT t b q = ({ (wordT t a r).1 with a := b, t := q }, 0) := by
  unfold wordT at h ⊢
  by_cases h1 : intForm t = true
  · simp only [if_pos h1] at h ⊢
    by_cases h2 : (whole t).2 ≠ 0
    · rw [if_pos h2] at h; exact absurd h h2
    · simp only [if_neg h2]
  · simp only [if_neg h1] at h ⊢
    by_cases h2 : t.contains 46 ∧ (Fx.read t).2 = 0
    · simp only [if_pos h2]
    · simp only [if_neg h2] at h ⊢
      by_cases h3 : t.contains 46 ∧ (Fx.read t).2 = 2
      · rw [if_pos h3] at h; cases h
      · simp only [if_neg h3] at h ⊢
        unfold told at h ⊢
        by_cases h4 : (127 : Int) < t.length
        · rw [if_pos h4] at h; cases h
        · simp only [if_neg h4]
theorem cut_length {s : List UInt8} {i j : Nat} (h : j ≤ s.length) : (cut s i j).length = j - i := by
  unfold cut; rw [List.length_take, List.length_drop]; omega
theorem cut_cons {s : List UInt8} {a b : Nat} (ha : a < s.length) (h : a < b) : cut s a b = s[a] :: (s.drop (a + 1)).take (b - (a + 1)) := by
  unfold cut
  rw [drop_cons ha, take_cons (by omega), show b - a - 1 = b - (a + 1) by omega]
theorem cut_full (u : List UInt8) : cut u 0 u.length = u := by simp [cut]
/-- THE LOCALITY: the token at a, cut alone, is the same. -/
theorem token_cut {s : List UInt8} {a : Nat} (ha : a < s.length) (hsk : skipF false (s.drop a) = 0) (h : (token s a).2 = 0) :
    next (cut s a (token s a).1.t.toNat) 0 = ({ (token s a).1 with a := 0, t := (token s a).1.t - a }, 0) := by
  have hbd := token_bd ha hsk h
  have hd := drop_cons ha
  have hT : token s a = if s[a] = 91 ∨ s[a] = 93 ∨ s[a] = 123 ∨ s[a] = 125 then mark s a 1
    else if s[a] = 60 then (if (s.drop (a + 1)).head? = some s[a] then mark s a 2 else hex s a)
    else if s[a] = 62 then (if (s.drop (a + 1)).head? = some s[a] then mark s a 2 else refused 3)
    else if s[a] = 47 then name s a
    else if s[a] = 40 then text s a
    else if s[a] = 41 then refused 3
    else word s a := by rw [token, hd]
  rw [hd] at hsk
  obtain ⟨h37, hw⟩ := stop_head hsk
  obtain ⟨-, hA, hlt, hle⟩ := hbd
  have hc := cut_cons (b := (token s a).1.t.toNat) ha (by omega)
  have hN : ∀ u : List UInt8, u = cut s a (token s a).1.t.toNat → next u 0 = token u 0 := by
    intro u hu
    unfold next
    rw [if_neg (by omega), Int.toNat_zero]
    have : skip u 0 = 0 := by
      unfold skip
      rw [List.drop_zero, hu, hc, skipF, if_neg h37, if_neg (by rw [hw]; decide)]
    rw [this]
  rw [hN _ rfl]
  have hlen := cut_length (s := s) (i := a) (j := (token s a).1.t.toNat) (by omega)
  generalize hU : cut s a (token s a).1.t.toNat = u at *
  have hTu : token u 0 = if s[a] = 91 ∨ s[a] = 93 ∨ s[a] = 123 ∨ s[a] = 125 then mark u 0 1
    else if s[a] = 60 then (if ((s.drop (a + 1)).take ((token s a).1.t.toNat - (a + 1))).head? = some s[a] then mark u 0 2 else hex u 0)
    else if s[a] = 62 then (if ((s.drop (a + 1)).take ((token s a).1.t.toNat - (a + 1))).head? = some s[a] then mark u 0 2 else refused 3)
    else if s[a] = 47 then name u 0
    else if s[a] = 40 then text u 0
    else if s[a] = 41 then refused 3
    else word u 0 := by
      have : u.drop 0 = s[a] :: (s.drop (a + 1)).take ((token s a).1.t.toNat - (a + 1)) := by rw [List.drop_zero]; exact hc
      rw [token, this]
  have hu1 : u.drop 1 = (s.drop (a + 1)).take ((token s a).1.t.toNat - (a + 1)) := by rw [hc]; rfl
  have hmk : ∀ n : Nat, token s a = mark s a n → n = u.length ∧ mark u 0 n = ({ (mark s a n).1 with a := 0, t := (mark s a n).1.t - a }, 0) := by
    intro n hn
    rw [hn] at hlen hU
    have e : (mark s a n).1.t.toNat = a + n := by simp only [mark]; omega
    rw [e] at hlen hU
    have hl : n = u.length := by omega
    refine ⟨hl, ?_⟩
    simp only [mark, Nat.zero_add]
    rw [hU]
    have : cut u 0 n = u := by rw [hl]; exact cut_full u
    rw [this]
    simp only [Prod.mk.injEq, Tok.mk.injEq, and_true, true_and]
    omega
  have two : ∀ n : Nat, token s a = mark s a 2 → (s.drop (a + 1)).head? = some s[a] → ((s.drop (a + 1)).take ((token s a).1.t.toNat - (a + 1))).head? = some s[a] := by
    intro _ hn hh
    rw [hn, head_take, hh]
    simp only [mark]; omega
  rw [hTu]
  by_cases g0 : s[a] = 91 ∨ s[a] = 93 ∨ s[a] = 123 ∨ s[a] = 125
  · rw [if_pos g0]
    rw [if_pos g0] at hT
    rw [(hmk 1 hT).2, hT]
  rw [if_neg g0]
  rw [if_neg g0] at hT
  by_cases g1 : s[a] = 60
  · rw [if_pos g1]
    rw [if_pos g1] at hT
    by_cases g : (s.drop (a + 1)).head? = some s[a]
    · rw [if_pos g] at hT
      rw [if_pos (two 0 hT g), (hmk 2 hT).2, hT]
    · rw [if_neg g] at hT
      have hh := hT ▸ h
      unfold hex at hT hh
      cases hx : hexF (-1) (s.drop (a + 1)) with
      | inr e =>
        exfalso
        rw [hx] at hT
        simp only at hT
        rw [hT] at hlt
        simp only [refused, none_] at hlt
        omega
      | inl r =>
        rw [hx] at hT hh
        simp only at hT hh
        have h1 := hexF_le _ _ _ hx
        have ht := told_ok hh
        rw [ht] at hT
        have e : (token s a).1.t.toNat - (a + 1) = r.2 := by rw [hT]; simp only; omega
        rw [e] at hu1 ⊢
        rw [if_neg (by rw [head_take h1.1]; exact g)]
        unfold hex
        rw [Nat.zero_add, hu1, hexF_take _ _ _ hx]
        simp only
        unfold told at hh ⊢
        split at hh
        · cases hh
        · rename_i hl
          rw [if_neg hl, hT]
          simp only [Prod.mk.injEq, Tok.mk.injEq, and_true, true_and]
          omega
  rw [if_neg g1]
  rw [if_neg g1] at hT
  by_cases g2 : s[a] = 62
  · rw [if_pos g2]
    rw [if_pos g2] at hT
    by_cases g : (s.drop (a + 1)).head? = some s[a]
    · rw [if_pos g] at hT
      rw [if_pos (two 0 hT g), (hmk 2 hT).2, hT]
    · rw [if_neg g] at hT
      rw [hT] at h; cases h
  rw [if_neg g2]
  rw [if_neg g2] at hT
  by_cases g3 : s[a] = 47
  · rw [if_pos g3]
    rw [if_pos g3] at hT
    have hh := hT ▸ h
    unfold name at hT hh
    cases hx : nameF (cut s (a + 1) (run s (a + 1))) with
    | none => rw [hx] at hh; cases hh
    | some x =>
      rw [hx] at hT hh
      simp only at hT hh
      have ht := told_ok hh
      rw [ht] at hT
      have hr : (token s a).1.t.toNat = run s (a + 1) := by rw [hT]; simp only; omega
      have hge : a + 1 ≤ run s (a + 1) := by unfold run; omega
      rw [hr] at hu1 hlen
      have hl := run_le s (show a + 1 ≤ s.length by omega)
      have hru : run u 1 = u.length := by
        unfold run
        rw [hu1, show run s (a + 1) - (a + 1) = runF (s.drop (a + 1)) by unfold run; omega, (runF_take _).2]
        rw [hlen]; unfold run; omega
      have hcu : cut u 1 (run u 1) = cut s (a + 1) (run s (a + 1)) := by
        rw [hru]
        unfold cut
        rw [hu1, List.take_of_length_le]
        rw [List.length_take, List.length_drop]; omega
      unfold name
      rw [Nat.zero_add, hcu, hx, hru]
      simp only
      unfold told at hh ⊢
      split at hh
      · cases hh
      · rename_i hl
        rw [if_neg hl, hT]
        simp only [Prod.mk.injEq, Tok.mk.injEq, and_true, true_and]
        omega
  rw [if_neg g3]
  rw [if_neg g3] at hT
  by_cases g4 : s[a] = 40
  · rw [if_pos g4]
    rw [if_pos g4] at hT
    have hh := hT ▸ h
    unfold text at hT hh
    cases hx : textG 0 1 (s.drop (a + 1)) with
    | none => rw [hx] at hh; cases hh
    | some r =>
      rw [hx] at hT hh
      simp only at hT hh
      have ht := told_ok hh
      rw [ht] at hT
      have e : (token s a).1.t.toNat - (a + 1) = r.2 := by rw [hT]; simp only; omega
      rw [e] at hu1
      unfold text
      rw [Nat.zero_add, hu1, textG_take _ _ _ _ hx]
      simp only
      unfold told at hh ⊢
      split at hh
      · cases hh
      · rename_i hl
        rw [if_neg hl, hT]
        simp only [Prod.mk.injEq, Tok.mk.injEq, and_true, true_and]
        omega
  rw [if_neg g4]
  rw [if_neg g4] at hT
  by_cases g5 : s[a] = 41
  · rw [if_pos g5] at hT
    rw [hT] at h; cases h
  rw [if_neg g5]
  rw [if_neg g5] at hT
  have hh := hT ▸ h
  unfold word at hT hh ⊢
  have hk := wordT_ok hh
  have hr : (token s a).1.t.toNat = run s a := by rw [hT, hk.2.2]; omega
  rw [hr] at hU hlen
  have hl := run_le s (show a ≤ s.length by omega)
  have hru : run u 0 = u.length := by
    have e : run s a - a = runF (s.drop a) := by unfold run; omega
    have hu : u = (s.drop a).take (runF (s.drop a)) := by rw [← hU]; unfold cut; rw [e]
    unfold run
    rw [List.drop_zero, hlen, e, hu, (runF_take _).2, Nat.zero_add]
  rw [hru, cut_full, hT, hU]
  have hge : a ≤ run s a := by unfold run; omega
  have hmv := wordT_move hh 0 (u.length : Int)
  rw [hU] at hmv hk
  refine hmv.trans ?_
  simp only [Prod.mk.injEq, Tok.mk.injEq, and_true, true_and]
  rw [hk.2.2]; omega
/- LISTS OF TOKENS -/
/-- From at_ on the tokens are l, and then nothing is left. -/
def Chain (s : List UInt8) : Int → List Tok → Prop
  | at_, [] => 0 ≤ at_ ∧ at_ ≤ s.length ∧ skip s at_.toNat = s.length
  | at_, x :: l => 0 ≤ at_ ∧ at_ ≤ s.length ∧ next s at_ = (x, 0) ∧ x.k ≠ 0 ∧ Chain s x.t l
theorem next_end {s : List UInt8} {i : Int} (h0 : 0 ≤ i) (h1 : i ≤ s.length) (h : (next s i).2 = 0) (hk : (next s i).1.k = 0) : skip s i.toNat = s.length := by
  unfold next at h hk
  rw [if_neg (by omega)] at h hk
  have hle := skip_le s (k := i.toNat) (by omega)
  rcases Nat.lt_or_ge (skip s i.toNat) s.length with h2 | h2
  · exact absurd hk (token_bd h2 (skip_stop s i.toNat) h).1
  · omega
theorem upto_chain (s : List UInt8) : ∀ (m : Nat) (a : Int) (l : List Tok), 0 ≤ a → a ≤ s.length → upto s m a = .inl l → l.length < m → Chain s a l
  | 0, a, l, _, _, _, h => by omega
  | m + 1, a, l, h0, h1, hu, hl => by
    rw [upto] at hu
    by_cases he : (next s a).2 ≠ 0
    · rw [if_pos he] at hu; cases hu
    · rw [if_neg he] at hu
      have he0 : (next s a).2 = 0 := by omega
      by_cases hk : (next s a).1.k = 0
      · rw [if_pos hk] at hu; cases hu
        exact ⟨h0, h1, next_end h0 h1 he0 hk⟩
      · rw [if_neg hk] at hu
        cases hh : upto s m (next s a).1.t with
        | inr f => rw [hh] at hu; cases hu
        | inl r =>
          rw [hh] at hu; cases hu
          have hbd := next_bd he0 hk
          refine ⟨h0, h1, by rw [← he0], hk, upto_chain s m _ r (by omega) hbd.2.2.2.2 hh (by simpa using hl)⟩
theorem upto_fault (s : List UInt8) : ∀ (m : Nat) (a : Int) (f : Int × Int), 0 ≤ a → a ≤ s.length → upto s m a = .inr f → 0 ≤ f.1 ∧ f.1 < s.length ∧ skipI s f.1 = f.1
  | 0, a, f, _, _, h => by rw [upto] at h; cases h
  | m + 1, a, f, h0, h1, hu => by
    rw [upto] at hu
    by_cases he : (next s a).2 ≠ 0
    · rw [if_pos he] at hu; cases hu
      have e1 : skipI s a = (skip s a.toNat : Nat) := by rw [skipI, if_neg (by omega)]
      have hle := skip_le s (k := a.toNat) (by omega)
      have hlt : skip s a.toNat < s.length := by
        refine Nat.lt_of_le_of_ne hle fun e => he ?_
        unfold next
        rw [if_neg (by omega), e, token, List.drop_eq_nil_of_le (Nat.le_refl _)]
      simp only [e1]
      refine ⟨by omega, by omega, ?_⟩
      rw [skipI, if_neg (by omega), Int.toNat_natCast, skip_skip]
    · rw [if_neg he] at hu
      have he0 : (next s a).2 = 0 := by omega
      by_cases hk : (next s a).1.k = 0
      · rw [if_pos hk] at hu; cases hu
      · rw [if_neg hk] at hu
        cases hh : upto s m (next s a).1.t with
        | inl r => rw [hh] at hu; cases hu
        | inr g =>
          rw [hh] at hu; cases hu
          have hbd := next_bd he0 hk
          exact upto_fault s m _ f (by omega) hbd.2.2.2.2 hh
theorem upto_most (s : List UInt8) : ∀ (m : Nat) (a : Int) (l : List Tok), 0 ≤ a → a ≤ s.length → upto s m a = .inl l → a + l.length ≤ s.length
  | 0, a, l, h0, h1, h => by rw [upto] at h; cases h; simp; omega
  | m + 1, a, l, h0, h1, h => by
    rw [upto] at h
    by_cases he : (next s a).2 ≠ 0
    · rw [if_pos he] at h; cases h
    · rw [if_neg he] at h
      have he0 : (next s a).2 = 0 := by omega
      by_cases hk : (next s a).1.k = 0
      · rw [if_pos hk] at h; cases h; simp; omega
      · rw [if_neg hk] at h
        cases hh : upto s m (next s a).1.t with
        | inr f => rw [hh] at h; cases h
        | inl r =>
          rw [hh] at h; cases h
          have hbd := next_bd he0 hk
          have := upto_most s m _ r (by omega) hbd.2.2.2.2 hh
          have hge := skip_ge s a.toNat
          simp; omega
end Lx
end Go.Proofs.YtgffladaenimmaaGreatDoor
/- Plain mathematics of layer 3: whole numbers from their digits; strings from hexadecimal and octal digits. -/
namespace Go.Proofs.YtgffladaenimmaaGreatDoor
set_option linter.unusedVariables false
set_option linter.unusedSimpArgs false
set_option linter.defProp false
open Go
namespace Lx
open Oc
theorem all8 {p : UInt8 → Prop} (h : ∀ n : Fin 256, p (UInt8.ofNat n.val)) (c : UInt8) : p c := by
  have := h ⟨c.toNat, c.toNat_lt⟩
  simpa using this
theorem regular_ne (c : UInt8) : regular c = true → white c = false ∧ c ≠ 37 ∧ ¬ (c = 91 ∨ c = 93 ∨ c = 123 ∨ c = 125) ∧ c ≠ 60 ∧ c ≠ 62 ∧ c ≠ 47 ∧ c ≠ 40 ∧ c ≠ 41 := by
  refine all8 (p := fun c => regular c = true → white c = false ∧ c ≠ 37 ∧ ¬ (c = 91 ∨ c = 93 ∨ c = 123 ∨ c = 125) ∧ c ≠ 60 ∧ c ≠ 62 ∧ c ≠ 47 ∧ c ≠ 40 ∧ c ≠ 41) ?_ c
  decide +kernel
theorem dig_reg (c : UInt8) : dig c = true → regular c = true ∧ sgn c = false ∧ c ≠ 45 := by
  refine all8 (p := fun c => dig c = true → regular c = true ∧ sgn c = false ∧ c ≠ 45) ?_ c
  decide +kernel
theorem val_cons (n : Nat) (c : UInt8) (l : List UInt8) : val n (c :: l) = val (10 * n + (c.toNat - 48)) l := by simp only [val, List.foldl_cons]
theorem val_shift (l : List UInt8) : ∀ n : Nat, val n l = n * 10 ^ l.length + val 0 l := by
  induction l with
  | nil => intro n; simp [val]
  | cons c l ih =>
    intro n
    rw [val_cons, val_cons, ih (10 * n + (c.toNat - 48)), ih (10 * 0 + (c.toNat - 48)), List.length_cons, Nat.pow_succ, Nat.add_mul]
    have : 10 * n * 10 ^ l.length = n * (10 ^ l.length * 10) := by rw [Nat.mul_comm (10 ^ l.length) 10, ← Nat.mul_assoc, Nat.mul_comm n 10]
    rw [this, Nat.mul_zero, Nat.zero_add, Nat.add_assoc]
theorem val_front (c : UInt8) (l : List UInt8) : val 0 (c :: l) = (c.toNat - 48) * 10 ^ l.length + val 0 l := by
  rw [val_cons, val_shift]; simp
theorem runF_app : ∀ (t : List UInt8) (c : UInt8) (r : List UInt8), t.all regular = true → regular c = false → runF (t ++ c :: r) = t.length
  | [], c, r, _, h => by simp [runF, h]
  | x :: t, c, r, h, hc => by
    simp only [List.all_cons, Bool.and_eq_true] at h
    rw [List.cons_append, runF, if_pos h.1, runF_app t c r h.2 hc, List.length_cons]; omega
theorem token_word {s : List UInt8} {a : Nat} {c : UInt8} {t : List UInt8} (hd : s.drop a = c :: t) (h : regular c = true) : token s a = word s a := by
  obtain ⟨_, _, h1, h2, h3, h4, h5, h6⟩ := regular_ne c h
  rw [token, hd]
  simp only [if_neg h1, if_neg h2, if_neg h3, if_neg h4, if_neg h5, if_neg h6]
theorem all_reg {ds : List UInt8} (h : ds.all dig = true) : ds.all regular = true := by
  rw [List.all_eq_true] at h ⊢
  exact fun c hc => (dig_reg c (h c hc)).1
theorem unsign_num {sg ds : List UInt8} (hs : sg = [] ∨ sg = [45]) (h : ds.all dig = true) : unsign (sg ++ ds) = ds := by
  rcases hs with rfl | rfl
  · cases ds with
    | nil => rfl
    | cons c t =>
      simp only [List.all_cons, Bool.and_eq_true] at h
      rw [List.nil_append, unsign, (dig_reg c h.1).2.1]; rfl
  · rfl
theorem num_next {sg ds : List UInt8} (hs : sg = [] ∨ sg = [45]) (hd : ds.all dig = true) (hne : ds ≠ []) : next ([10] ++ sg ++ ds ++ [47]) 0 = if 2147483647 < val 0 ds then refused 2 else (⟨1, 1, (1 + sg.length + ds.length : Nat), if sg = [] then (val 0 ds : Int) else -(val 0 ds : Int), []⟩, 0) := by
  have ht : (sg ++ ds).all regular = true := by
    rw [List.all_append, all_reg hd, Bool.and_true]
    rcases hs with rfl | rfl <;> rfl
  have hu := unsign_num hs hd
  have hhead : (sg ++ ds).head? = some 45 ↔ sg = [45] := by
    rcases hs with rfl | rfl
    · cases ds with
      | nil => exact absurd rfl hne
      | cons c t =>
        simp only [List.all_cons, Bool.and_eq_true] at hd
        simp [(dig_reg c hd.1).2.2]
    · simp
  have hlen : (sg ++ ds).length = sg.length + ds.length := List.length_append
  have htn : sg ++ ds ≠ [] := by simp [hne]
  have hS : [10] ++ sg ++ ds ++ [47] = 10 :: ((sg ++ ds) ++ [47]) := by simp
  rw [hS]
  generalize sg ++ ds = t at *
  cases t with
  | nil => exact absurd rfl htn
  | cons c r =>
    have hc : regular c = true := by simp only [List.all_cons, Bool.and_eq_true] at ht; exact ht.1
    obtain ⟨hw, h37, _⟩ := regular_ne c hc
    have hd1 : (10 :: (c :: r ++ [47])).drop 1 = c :: r ++ 47 :: [] := rfl
    have hsk : skip (10 :: (c :: r ++ [47])) 0 = 1 := by
      unfold skip
      rw [List.drop_zero, skipF, if_neg (by decide), if_pos (by decide), List.cons_append, skipF, if_neg h37, if_neg (by rw [hw]; decide)]
    have hrun : run (10 :: (c :: r ++ [47])) 1 = 1 + (c :: r).length := by
      unfold run
      rw [hd1, runF_app _ _ _ ht (by decide)]
    have hcut : cut (10 :: (c :: r ++ [47])) 1 (1 + (c :: r).length) = c :: r := by
      unfold cut
      rw [hd1, Nat.add_sub_cancel_left, List.take_left']
      rfl
    unfold next
    rw [if_neg (by simp only [List.length_cons]; omega), Int.toNat_zero, hsk, token_word hd1 hc, word, hrun, hcut]
    have hI : intForm (c :: r) = true := by
      unfold intForm
      rw [hu, hd]
      cases ds with
      | nil => exact absurd rfl hne
      | cons => rfl
    rw [wordT, if_pos hI]
    unfold whole
    rw [hu]
    by_cases hb : 2147483647 < val 0 ds
    · rw [if_pos hb, if_pos hb, if_pos (by decide)]
    · rw [if_neg hb, if_neg hb, if_neg (by simp)]
      refine Prod.ext (Tok.mk.injEq .. ▸ ⟨rfl, rfl, ?_, ?_, rfl⟩) rfl
      · rw [hlen]; omega
      · simp only
        rcases hs with rfl | rfl
        · rw [if_neg (by rw [hhead]; simp), if_pos rfl]
        · rw [if_pos (by rw [hhead]), if_neg (by simp)]
end Lx
end Go.Proofs.YtgffladaenimmaaGreatDoor
/- Plain mathematics of layer 4: encodings are one-to-one; no program in sight. -/
namespace Go.Proofs.YtgffladaenimmaaGreatDoor
set_option linter.unusedVariables false
set_option linter.unusedSimpArgs false
set_option linter.defProp false
open Go
namespace Pl
open Oc
/-- A code of bytes that tells each byte by its head. -/
def Head (f : UInt8 → List UInt8) : Prop := ∀ c d x y, f c ++ x = f d ++ y → c = d ∧ x = y
theorem flat_inj {f : UInt8 → List UInt8} (h : Head f) (hn : ∀ c, f c ≠ []) : ∀ (l m x y : List UInt8), l.flatMap f ++ x = m.flatMap f ++ y → (∀ c z, x = f c ++ z → False) → (∀ c z, y = f c ++ z → False) → l = m ∧ x = y
  | [], [], x, y, e, _, _ => ⟨rfl, by simpa using e⟩
  | [], d :: m, x, y, e, hx, _ => by
    simp only [List.flatMap_nil, List.nil_append, List.flatMap_cons, List.append_assoc] at e
    exact (hx d _ e).elim
  | c :: l, [], x, y, e, _, hy => by
    simp only [List.flatMap_nil, List.nil_append, List.flatMap_cons, List.append_assoc] at e
    exact (hy c _ e.symm).elim
  | c :: l, d :: m, x, y, e, hx, hy => by
    simp only [List.flatMap_cons, List.append_assoc] at e
    obtain ⟨rfl, e2⟩ := h c d _ _ e
    obtain ⟨rfl, rfl⟩ := flat_inj h hn l m x y e2 hx hy
    exact ⟨rfl, rfl⟩
theorem ofNat_inj {a b : Nat} (ha : a < 256) (hb : b < 256) (h : UInt8.ofNat a = UInt8.ofNat b) : a = b := by
  have := congrArg UInt8.toNat h
  rw [UInt8.toNat_ofNat', UInt8.toNat_ofNat'] at this
  omega
theorem esc_head : Head esc := by
  intro c d x y h
  have hc := c.toNat_lt
  have hd := d.toNat_lt
  have kc : ∀ k : UInt8, (UInt8.ofNat (48 + k.toNat / 64) = 40 ∨ UInt8.ofNat (48 + k.toNat / 64) = 41 ∨ UInt8.ofNat (48 + k.toNat / 64) = 92) → False := by
    intro k hk
    have hkl := k.toNat_lt
    rcases hk with hk | hk | hk
    · have := ofNat_inj (b := 40) (by omega) (by omega) hk; omega
    · have := ofNat_inj (b := 41) (by omega) (by omega) hk; omega
    · have := ofNat_inj (b := 92) (by omega) (by omega) hk; omega
  unfold esc at h
  by_cases c1 : c = 40 ∨ c = 41 ∨ c = 92
  · by_cases d1 : d = 40 ∨ d = 41 ∨ d = 92
    · rw [if_pos c1, if_pos d1] at h
      simp at h
      exact h
    · rw [if_pos c1, if_neg d1] at h
      by_cases d2 : d.toNat < 32 ∨ 126 < d.toNat
      · rw [if_pos d2] at h
        simp only [oct, List.cons_append, List.nil_append, List.cons.injEq, true_and] at h
        exact (kc d (by rw [← h.1]; exact c1)).elim
      · rw [if_neg d2] at h
        simp at h
        exact (d1 (.inr (.inr h.1.symm))).elim
  · by_cases d1 : d = 40 ∨ d = 41 ∨ d = 92
    · rw [if_neg c1, if_pos d1] at h
      by_cases c2 : c.toNat < 32 ∨ 126 < c.toNat
      · rw [if_pos c2] at h
        simp only [oct, List.cons_append, List.nil_append, List.cons.injEq, true_and] at h
        exact (kc c (by rw [h.1]; exact d1)).elim
      · rw [if_neg c2] at h
        simp at h
        exact (c1 (.inr (.inr h.1))).elim
    · rw [if_neg c1, if_neg d1] at h
      by_cases c2 : c.toNat < 32 ∨ 126 < c.toNat
      · by_cases d2 : d.toNat < 32 ∨ 126 < d.toNat
        · rw [if_pos c2, if_pos d2] at h
          simp only [oct, List.cons_append, List.nil_append, List.cons.injEq, true_and] at h
          obtain ⟨h1, h2, h3, h4⟩ := h
          have g1 := ofNat_inj (by omega) (by omega) h1
          have g2 := ofNat_inj (by omega) (by omega) h2
          have g3 := ofNat_inj (by omega) (by omega) h3
          exact ⟨UInt8.toNat_inj.1 (by omega), h4⟩
        · rw [if_pos c2, if_neg d2] at h
          simp [oct] at h
          exact (d1 (.inr (.inr h.1.symm))).elim
      · by_cases d2 : d.toNat < 32 ∨ 126 < d.toNat
        · rw [if_neg c2, if_pos d2] at h
          simp [oct] at h
          exact (c1 (.inr (.inr h.1))).elim
        · rw [if_neg c2, if_neg d2] at h
          simpa using h
theorem hexD_inj : ∀ a b : Fin 16, hexD a.val = hexD b.val → a = b := by decide +kernel
theorem nmc_head : Head nmc := by
  intro c d x y h
  have hc := c.toNat_lt
  have hd := d.toNat_lt
  have ne : ∀ k, nmOk k = true → k ≠ 35 := by intro k hk; simp [nmOk] at hk; exact hk.1.2
  unfold nmc at h
  by_cases c1 : nmOk c = true
  · by_cases d1 : nmOk d = true
    · rw [if_pos c1, if_pos d1] at h; simpa using h
    · rw [if_pos c1, if_neg d1] at h
      simp at h
      exact (ne c c1 h.1).elim
  · by_cases d1 : nmOk d = true
    · rw [if_neg c1, if_pos d1] at h
      simp at h
      exact (ne d d1 h.1.symm).elim
    · rw [if_neg c1, if_neg d1] at h
      simp only [hex, hex1, List.flatMap_cons, List.flatMap_nil, List.append_nil, List.cons_append, List.nil_append, List.cons.injEq, true_and] at h
      obtain ⟨h1, h2, h3⟩ := h
      have g1 := hexD_inj ⟨c.toNat / 16, by omega⟩ ⟨d.toNat / 16, by omega⟩ h1
      have g2 := hexD_inj ⟨c.toNat % 16, by omega⟩ ⟨d.toNat % 16, by omega⟩ h2
      simp only [Fin.mk.injEq] at g1 g2
      exact ⟨UInt8.toNat_inj.1 (by omega), h3⟩
theorem esc_41 (c : UInt8) (z : List UInt8) (h : [41] = esc c ++ z) : False := by
  unfold esc at h
  by_cases c1 : c = 40 ∨ c = 41 ∨ c = 92
  · rw [if_pos c1] at h; simp at h
  · rw [if_neg c1] at h
    by_cases c2 : c.toNat < 32 ∨ 126 < c.toNat
    · rw [if_pos c2] at h; simp [oct] at h
    · rw [if_neg c2] at h
      simp at h
      exact c1 (.inr (.inl h.1.symm))
theorem str_inj {l m : List UInt8} (h : str l = str m) : l = m := by
  unfold str at h
  simp only [List.append_assoc] at h
  have h2 := List.append_cancel_left h
  exact (flat_inj esc_head (fun c => by have := (esc_len c).1; intro e; rw [e] at this; simp at this) l m [41] [41] h2 (fun c z e => esc_41 c z e) (fun c z e => esc_41 c z e)).1
theorem name_inj {l m : List UInt8} (h : name l = name m) : l = m := by
  unfold name at h
  have h2 := List.append_cancel_left h
  have hn : ∀ c, nmc c ≠ [] := fun c => by have := (nmc_len c).1; intro e; rw [e] at this; simp at this
  refine (flat_inj nmc_head hn l m [] [] (by simpa using h2) (fun c z e => ?_) (fun c z e => ?_)).1 <;>
  · have := congrArg List.length e
    have h1 := (nmc_len c).1
    simp at this; omega
/- NUMBERS -/
theorem dec_val : ∀ u : Nat, Fx.val 0 (Lib.decDigits u) = (u : Int) ∧ (Lib.decDigits u).all Fx.isDig = true := by
  intro u
  induction u using Nat.strongRecOn with
  | _ u ih =>
    have dig : ∀ k, k < 10 → Fx.isDig (UInt8.ofNat (48 + k)) = true ∧ ((UInt8.ofNat (48 + k)).toNat : Int) - 48 = (k : Int) := by
      intro k hk
      have e : (UInt8.ofNat (48 + k)).toNat = 48 + k := by rw [UInt8.toNat_ofNat']; omega
      refine ⟨?_, by omega⟩
      unfold Fx.isDig
      rw [e]
      simp only [Bool.and_eq_true, decide_eq_true_eq]
      omega
    rw [Lib.decDigits]
    split
    · rename_i h
      obtain ⟨h1, h2⟩ := dig u h
      refine ⟨?_, by rw [List.all_cons, h1]; rfl⟩
      simp only [Fx.val, List.foldl_cons, List.foldl_nil, h2]
      omega
    · rename_i h
      obtain ⟨i1, i2⟩ := ih (u / 10) (by omega)
      obtain ⟨h1, h2⟩ := dig (u % 10) (by omega)
      refine ⟨?_, by rw [List.all_append, i2, List.all_cons, h1]; rfl⟩
      rw [Fx.val_append, i1]
      simp only [Fx.val, List.foldl_cons, List.foldl_nil, h2]
      omega
theorem itoa_shape (n : Int) : (∃ u : Nat, n = u ∧ Lib.itoa n = Lib.decDigits u) ∨ (∃ u : Nat, n = -(u : Int) ∧ 0 < u ∧ Lib.itoa n = 45 :: Lib.decDigits u) := by
  unfold Lib.itoa
  by_cases h : n < 0
  · rw [if_pos h]; exact .inr ⟨n.natAbs, by omega, by omega, rfl⟩
  · rw [if_neg h]; exact .inl ⟨n.toNat, by omega, rfl⟩
theorem dec_no (u : Nat) (c : UInt8) (hc : Fx.isDig c = false) : c ∉ Lib.decDigits u := fun hm => by
  have := List.all_eq_true.1 (dec_val u).2 c hm
  rw [hc] at this; cases this
theorem dec_inj {u v : Nat} (h : Lib.decDigits u = Lib.decDigits v) : u = v := by
  have h1 := (dec_val u).1
  have h2 := (dec_val v).1
  rw [h] at h1
  omega
theorem itoa_inj {n m : Int} (h : Lib.itoa n = Lib.itoa m) : n = m := by
  rcases itoa_shape n with ⟨u, hu, e1⟩ | ⟨u, hu, _, e1⟩ <;> rcases itoa_shape m with ⟨v, hv, e2⟩ | ⟨v, hv, _, e2⟩ <;> rw [e1, e2] at h
  · have := dec_inj h; omega
  · exact (dec_no u 45 rfl (by rw [h]; simp)).elim
  · exact (dec_no v 45 rfl (by rw [← h]; simp)).elim
  · simp only [List.cons.injEq, true_and] at h
    have := dec_inj h; omega
theorem itoa_no46 (n : Int) : (46 : UInt8) ∉ Lib.itoa n := by
  rcases itoa_shape n with ⟨u, _, e⟩ | ⟨u, _, _, e⟩ <;> rw [e]
  · exact dec_no u 46 rfl
  · simp only [List.mem_cons, not_or]
    exact ⟨by decide, dec_no u 46 rfl⟩
theorem text_has46 {n : Int} (h : Fx.okB n = true) : (46 : UInt8) ∈ Fx.text n := by
  rw [Fx.text, if_pos h]; simp
theorem text_inj {n m : Int} (hn : Fx.okB n = true) (hm : Fx.okB m = true) (h : Fx.text n = Fx.text m) : n = m := by
  have h1 := (Fx.read_text n hn 0 (by omega)).1
  have h2 := (Fx.read_text m hm 0 (by omega)).1
  rw [h, h2] at h1
  injection h1 with h3 _
  exact h3.symm
end Pl
end Go.Proofs.YtgffladaenimmaaGreatDoor
/- Plain mathematics of layers 3 and 4: every encoding is one token; strings from hexadecimal and octal digits. -/
namespace Go.Proofs.YtgffladaenimmaaGreatDoor
set_option linter.unusedVariables false
set_option linter.unusedSimpArgs false
set_option linter.defProp false
open Go
namespace Lx
open Oc
theorem word_next {t : List UInt8} (h : t ≠ []) (hr : t.all regular = true) : next t 0 = wordT t 0 t.length := by
  cases t with
  | nil => exact absurd rfl h
  | cons c r =>
    have hc : regular c = true := by simp only [List.all_cons, Bool.and_eq_true] at hr; exact hr.1
    obtain ⟨hw, h37, _⟩ := regular_ne c hc
    have hsk : skip (c :: r) 0 = 0 := by
      unfold skip
      rw [List.drop_zero, skipF, if_neg h37, if_neg (by rw [hw]; decide)]
    have all_run : ∀ l : List UInt8, l.all regular = true → runF l = l.length := by
      intro l
      induction l with
      | nil => intro _; rfl
      | cons d l ih =>
        intro hl
        simp only [List.all_cons, Bool.and_eq_true] at hl
        rw [runF, if_pos hl.1, ih hl.2, List.length_cons]; omega
    have hrun : run (c :: r) 0 = (c :: r).length := by
      unfold run
      rw [List.drop_zero, all_run _ hr, Nat.zero_add]
    unfold next
    rw [if_neg (by omega), Int.toNat_zero, hsk, token_word (List.drop_zero) hc, word, hrun, cut_full]; rfl
theorem val_fx : ∀ (l : List UInt8) (n : Nat), l.all dig = true → ((val n l : Nat) : Int) = Fx.val n l
  | [], n, _ => rfl
  | c :: l, n, h => by
    simp only [List.all_cons, Bool.and_eq_true] at h
    have hc : 48 ≤ c.toNat := by have := h.1; simp only [dig, Bool.and_eq_true, decide_eq_true_eq] at this; omega
    rw [val_cons, Fx.val_cons, val_fx l _ h.2]
    congr 1
    omega
theorem itoa_next {n : Int} (h1 : -2147483647 ≤ n) (h2 : n ≤ 2147483647) : next (Lib.itoa n) 0 = (⟨1, 0, (Lib.itoa n).length, n, []⟩, 0) := by
  have dec : ∀ u : Nat, (Lib.decDigits u).all dig = true ∧ val 0 (Lib.decDigits u) = u ∧ Lib.decDigits u ≠ [] := by
    intro u
    obtain ⟨d1, d2⟩ := Pl.dec_val u
    refine ⟨d2, by have := val_fx (Lib.decDigits u) 0 d2; rw [show ((0 : Nat) : Int) = 0 from rfl, d1] at this; omega, fun e => ?_⟩
    have := Lib.decDigits_length u
    rw [e] at this
    have h1 : 1 ≤ Lib.nDigits u := by unfold Lib.nDigits; split <;> omega
    simp at this; omega
  have go : ∀ (sg : List UInt8) (u : Nat), (sg = [] ∨ sg = [45]) → u ≤ 2147483647 → n = (if sg = [] then (u : Int) else -(u : Int)) → Lib.itoa n = sg ++ Lib.decDigits u → next (Lib.itoa n) 0 = (⟨1, 0, (Lib.itoa n).length, n, []⟩, 0) := by
    intro sg u hs hu hn he
    obtain ⟨d1, d2, d3⟩ := dec u
    have ht : (sg ++ Lib.decDigits u).all regular = true := by
      rw [List.all_append, all_reg d1, Bool.and_true]
      rcases hs with rfl | rfl <;> rfl
    rw [he, word_next (by simp [d3]) ht, wordT]
    have hus := unsign_num hs d1
    have hI : intForm (sg ++ Lib.decDigits u) = true := by
      unfold intForm
      rw [hus, d1]
      cases hd : Lib.decDigits u with
      | nil => exact absurd hd d3
      | cons => rfl
    have hhead : (sg ++ Lib.decDigits u).head? = some 45 ↔ sg = [45] := by
      rcases hs with rfl | rfl
      · cases hd : Lib.decDigits u with
        | nil => exact absurd hd d3
        | cons c t =>
          rw [hd] at d1
          simp only [List.all_cons, Bool.and_eq_true] at d1
          simp [(dig_reg c d1.1).2.2]
      · simp
    have hW : whole (sg ++ Lib.decDigits u) = (n, 0) := by
      unfold whole
      rw [hus, d2, if_neg (by omega)]
      rcases hs with rfl | rfl
      · rw [if_neg (by rw [hhead]; simp), hn, if_pos rfl]
      · rw [if_pos (by rw [hhead]), hn, if_neg (by simp)]
    rw [if_pos hI, hW, if_neg (by simp)]
  rcases Pl.itoa_shape n with ⟨u, hu, e⟩ | ⟨u, hu, hp, e⟩
  · exact go [] u (.inl rfl) (by omega) (by simpa using hu) (by simpa using e)
  · exact go [45] u (.inr rfl) (by omega) (by simpa using hu) (by simpa using e)
theorem dig_all_reg {l : List UInt8} (h : l.all Fx.isDig = true) : l.all regular = true := all_reg h
theorem text_next {n : Int} (h : Fx.okB n = true) : next (Fx.text n) 0 = (⟨2, 0, (Fx.text n).length, n, []⟩, 0) := by
  have h46 := Pl.text_has46 h
  have hr : (Fx.text n).all regular = true := by
    rw [Fx.text, if_pos h, List.all_append, List.all_append, List.all_append, dig_all_reg (Fx.row_all _ _)]
    obtain ⟨j, _, hf⟩ := Fx.fpart_rep n.natAbs
    rw [hf, List.all_append, dig_all_reg (Fx.tr_all (Fx.row_all _ _)), dig_all_reg (Fx.rep_all _)]
    split <;> rfl
  have hread : Fx.read (Fx.text n) = (n, 0) := by
    have := (Fx.read_text n h 0 (by omega)).1
    simpa using this
  have hne : Fx.text n ≠ [] := by intro e; rw [e] at h46; cases h46
  rw [word_next hne hr, wordT]
  have hI : intForm (Fx.text n) = false := by
    unfold intForm
    rw [Bool.and_eq_false_iff]
    right
    have hm : (46 : UInt8) ∈ unsign (Fx.text n) := by
      cases ht : Fx.text n with
      | nil => exact absurd ht hne
      | cons c t =>
        rw [ht] at h46
        rw [unsign]
        split
        · rename_i hs
          rcases List.mem_cons.1 h46 with e | e
          · rw [← e] at hs; cases hs
          · exact e
        · exact h46
    rw [List.all_eq_false]
    exact ⟨46, hm, by decide⟩
  rw [hI, hread]
  simp only [Bool.false_eq_true, if_false]
  rw [if_pos ⟨by simpa using h46, trivial⟩]
/- STRINGS -/
theorem oct_facts (c : UInt8) : oct (UInt8.ofNat (48 + c.toNat / 64)) = true ∧ oct (UInt8.ofNat (48 + c.toNat / 8 % 8)) = true ∧ oct (UInt8.ofNat (48 + c.toNat % 8)) = true ∧ escL (UInt8.ofNat (48 + c.toNat / 64)) = none ∧ eol (UInt8.ofNat (48 + c.toNat / 64)) = false
    ∧ UInt8.ofNat (8 * (8 * (8 * 0 + ((UInt8.ofNat (48 + c.toNat / 64)).toNat - 48)) + ((UInt8.ofNat (48 + c.toNat / 8 % 8)).toNat - 48)) + ((UInt8.ofNat (48 + c.toNat % 8)).toNat - 48)) = c := by
  refine all8 (p := fun c => oct (UInt8.ofNat (48 + c.toNat / 64)) = true ∧ oct (UInt8.ofNat (48 + c.toNat / 8 % 8)) = true ∧ oct (UInt8.ofNat (48 + c.toNat % 8)) = true ∧ escL (UInt8.ofNat (48 + c.toNat / 64)) = none ∧ eol (UInt8.ofNat (48 + c.toNat / 64)) = false
    ∧ UInt8.ofNat (8 * (8 * (8 * 0 + ((UInt8.ofNat (48 + c.toNat / 64)).toNat - 48)) + ((UInt8.ofNat (48 + c.toNat / 8 % 8)).toNat - 48)) + ((UInt8.ofNat (48 + c.toNat % 8)).toNat - 48)) = c) ?_ c
  decide +kernel
theorem escF_oct (c : UInt8) (t : List UInt8) : escF (UInt8.ofNat (48 + c.toNat / 64) :: UInt8.ofNat (48 + c.toNat / 8 % 8) :: UInt8.ofNat (48 + c.toNat % 8) :: t) = ([c], 3) := by
  obtain ⟨h1, h2, h3, h4, h5, h6⟩ := oct_facts c
  generalize UInt8.ofNat (48 + c.toNat / 64) = x at *
  generalize UInt8.ofNat (48 + c.toNat / 8 % 8) = y at *
  generalize UInt8.ofNat (48 + c.toNat % 8) = z at *
  have ho : octF 3 0 (x :: y :: z :: t) = (8 * (8 * (8 * 0 + (x.toNat - 48)) + (y.toNat - 48)) + (z.toNat - 48), 3) := by
    simp only [octF, h1, h2, h3, if_true]
  simp only [escF, h4, h5, ho, Bool.false_eq_true, if_false]
  rw [if_pos (by omega), h6]
/-- A backslash and three octal digits. -/
theorem textG_oct (c : UInt8) (o : Nat) (t : List UInt8) : textG 0 o (Pl.oct c ++ t) = (textG 0 o t).map fun r => (c :: r.1, r.2 + 4) := by
  unfold Pl.oct
  rw [List.cons_append, textG, if_neg (by decide), if_pos rfl, if_neg (by simp)]
  simp only [List.cons_append, List.nil_append]
  rw [escF_oct, textG_skip 3 o _ (by simp), Option.map_map]
  simp only [List.drop_succ_cons, List.drop_zero]
  congr 1
theorem textG_octs (o : Nat) : ∀ (l t : List UInt8), textG 0 o (l.flatMap Pl.oct ++ t) = (textG 0 o t).map fun r => (l ++ r.1, r.2 + 4 * l.length)
  | [], t => by simp
  | c :: l, t => by
    rw [List.flatMap_cons, List.append_assoc, textG_oct, textG_octs o l t, Option.map_map]
    congr 1
theorem textG_esc (c : UInt8) (t : List UInt8) : textG 0 1 (Pl.esc c ++ t) = (textG 0 1 t).map fun r => (c :: r.1, r.2 + (Pl.esc c).length) := by
  unfold Pl.esc
  by_cases h1 : c = 40 ∨ c = 41 ∨ c = 92
  · rw [if_pos h1]
    have hl : escL c = none := by rcases h1 with rfl | rfl | rfl <;> rfl
    have he : eol c = false := by rcases h1 with rfl | rfl | rfl <;> rfl
    have ho : oct c = false := by rcases h1 with rfl | rfl | rfl <;> rfl
    have hE : escF (c :: t) = ([c], 1) := by
      have h0 : octF 3 0 (c :: t) = (0, 0) := by simp only [octF, ho, Bool.false_eq_true, if_false]
      simp only [escF, hl, he, h0, Bool.false_eq_true, if_false]
      rw [if_neg (by omega)]
    rw [List.cons_append, List.cons_append, List.nil_append, textG, if_neg (by decide), if_pos rfl, if_neg (by simp), hE, textG_skip 1 1 _ (by simp), Option.map_map]
    simp only [List.drop_succ_cons, List.drop_zero]
    congr 1
  · rw [if_neg h1]
    by_cases h2 : c.toNat < 32 ∨ 126 < c.toNat
    · rw [if_pos h2, textG_oct]; rfl
    · rw [if_neg h2, List.cons_append, List.nil_append, textG]
      have he : eol c = false := by
        unfold eol
        rw [Bool.or_eq_false_iff]
        refine ⟨decide_eq_false fun e => ?_, decide_eq_false fun e => ?_⟩ <;>
        · rw [e] at h2
          exact h2 (.inl (by decide))
      rw [if_neg (by rw [he]; decide), if_neg (fun e => h1 (.inr (.inr e))), if_neg (fun e => h1 (.inl e)), if_neg (fun e => h1 (.inr (.inl e)))]
      rfl
theorem textG_escs : ∀ (l t : List UInt8), textG 0 1 (l.flatMap Pl.esc ++ t) = (textG 0 1 t).map fun r => (l ++ r.1, r.2 + (l.flatMap Pl.esc).length)
  | [], t => by simp
  | c :: l, t => by
    rw [List.flatMap_cons, List.append_assoc, textG_esc, textG_escs l t, Option.map_map]
    congr 1
    funext r
    simp only [Function.comp, List.cons_append, List.length_append]
    refine Prod.ext rfl ?_
    simp only; omega
theorem textG_close (t : List UInt8) : textG 0 1 (41 :: t) = some ([], 1) := by
  rw [textG, if_neg (by decide), if_neg (by decide), if_neg (by decide), if_pos rfl, if_pos (by omega)]
theorem next_open (c : UInt8) (t : List UInt8) (h : c ≠ 37 ∧ white c = false) : next (c :: t) 0 = token (c :: t) 0 := by
  have hsk : skip (c :: t) 0 = 0 := by
    unfold skip
    rw [List.drop_zero, skipF, if_neg h.1, if_neg (by rw [h.2]; decide)]
  unfold next
  rw [if_neg (by omega), Int.toNat_zero, hsk]
theorem token_text (t : List UInt8) : token (40 :: t) 0 = text (40 :: t) 0 := by
  rw [token, List.drop_zero]
  simp only
  rw [if_neg (by decide), if_neg (by decide), if_neg (by decide), if_neg (by decide), if_pos trivial]
theorem text_of {t x : List UInt8} {n : Nat} (h : textG 0 1 t = some (x, n)) (hx : x.length ≤ 32767) : next (40 :: t) 0 = (⟨3, 0, (1 + n : Nat), 0, x⟩, 0) := by
  rw [next_open 40 t (by decide), token_text, text]
  have : (40 :: t).drop (0 + 1) = t := rfl
  rw [this, h]
  simp only [told]
  rw [if_neg (by omega), Nat.zero_add]; rfl
theorem str_next {l : List UInt8} (h : l.length ≤ 32767) : next (Pl.str l) 0 = (⟨3, 0, (Pl.str l).length, 0, l⟩, 0) := by
  have hs : Pl.str l = 40 :: (l.flatMap Pl.esc ++ 41 :: []) := by simp [Pl.str]
  have := text_of (t := l.flatMap Pl.esc ++ 41 :: []) (x := l) (n := 1 + (l.flatMap Pl.esc).length) (by rw [textG_escs, textG_close]; simp) h
  rw [hs, this]
  simp only [List.length_cons, List.length_append, List.length_nil]
  rw [show 1 + (1 + (l.flatMap Pl.esc).length) = (l.flatMap Pl.esc).length + (0 + 1) + 1 by omega]
/- HEXADECIMAL -/
theorem hex_facts (c : UInt8) : digit (hexD (c.toNat / 16)) = (c.toNat / 16 : Nat) ∧ digit (hexD (c.toNat % 16)) = (c.toNat % 16 : Nat) ∧ byte (c.toNat / 16 : Nat) (c.toNat % 16 : Nat) = c ∧ hexD (c.toNat / 16) ≠ 62 ∧ hexD (c.toNat % 16) ≠ 62 ∧ white (hexD (c.toNat / 16)) = false ∧ white (hexD (c.toNat % 16)) = false
    ∧ regular (hexD (c.toNat / 16)) = true ∧ regular (hexD (c.toNat % 16)) = true ∧ hexD (c.toNat / 16) ≠ 60 := by
  refine all8 (p := fun c => digit (hexD (c.toNat / 16)) = (c.toNat / 16 : Nat) ∧ digit (hexD (c.toNat % 16)) = (c.toNat % 16 : Nat) ∧ byte (c.toNat / 16 : Nat) (c.toNat % 16 : Nat) = c ∧ hexD (c.toNat / 16) ≠ 62 ∧ hexD (c.toNat % 16) ≠ 62 ∧ white (hexD (c.toNat / 16)) = false ∧ white (hexD (c.toNat % 16)) = false
    ∧ regular (hexD (c.toNat / 16)) = true ∧ regular (hexD (c.toNat % 16)) = true ∧ hexD (c.toNat / 16) ≠ 60) ?_ c
  decide +kernel
theorem hexF_white {ws : List UInt8} (h : ws.all white = true) (h62 : (62 : UInt8) ∉ ws) (x : Int) (t : List UInt8) (r : List UInt8 × Nat) (ht : hexF x t = .inl r) : hexF x (ws ++ t) = .inl (r.1, r.2 + ws.length) := by
  induction ws with
  | nil => simpa using ht
  | cons c ws ih =>
    simp only [List.all_cons, Bool.and_eq_true] at h
    simp only [List.mem_cons, not_or] at h62
    rw [List.cons_append, hexF, if_neg (fun e => h62.1 e.symm), if_pos h.1, ih h.2 h62.2]
    simp only [List.length_cons]
    rw [Nat.add_assoc]
def spread (ws : List UInt8) (l : List UInt8) : List UInt8 := l.flatMap fun d => d :: ws
theorem spread_append (ws a b : List UInt8) : spread ws (a ++ b) = spread ws a ++ spread ws b := by simp [spread]
theorem hexF_spread {ws : List UInt8} (h : ws.all white = true) (h62 : (62 : UInt8) ∉ ws) (t : List UInt8) : ∀ l : List UInt8, hexF (-1) (spread ws (Oc.hex l) ++ 62 :: t) = .inl (l, (spread ws (Oc.hex l)).length + 1)
  | [] => by rw [show spread ws (Oc.hex []) ++ 62 :: t = 62 :: t from rfl, hexF, if_pos rfl, if_neg (by omega)]; rfl
  | c :: l => by
    obtain ⟨f1, f2, f3, f4, f5, f6, f7, -⟩ := hex_facts c
    have ih := hexF_spread h h62 t l
    have e : spread ws (Oc.hex (c :: l)) ++ 62 :: t = hexD (c.toNat / 16) :: (ws ++ hexD (c.toNat % 16) :: (ws ++ (spread ws (Oc.hex l) ++ 62 :: t))) := by
      simp [spread, Oc.hex, hex1]
    have el : (spread ws (Oc.hex (c :: l))).length = ws.length + ws.length + 2 + (spread ws (Oc.hex l)).length := by
      simp [spread, Oc.hex, hex1]; omega
    have h2 : hexF (c.toNat / 16 : Nat) (hexD (c.toNat % 16) :: (ws ++ (spread ws (Oc.hex l) ++ 62 :: t))) = .inl (c :: l, (spread ws (Oc.hex l)).length + 1 + ws.length + 1) := by
      rw [hexF, if_neg f5, if_neg (by rw [f7]; decide), f2, if_neg (by omega), if_neg (by omega), hexF_white h h62 _ _ _ ih]
      simp only [f3]
    rw [e, hexF, if_neg f4, if_neg (by rw [f6]; decide), f1, if_neg (by omega), if_pos (by omega), hexF_white h h62 _ _ _ h2, el]
    simp only
    rw [show (spread ws (Oc.hex l)).length + 1 + ws.length + 1 + ws.length + 1 = ws.length + ws.length + 2 + (spread ws (Oc.hex l)).length + 1 by omega]
theorem spread_nil (l : List UInt8) : spread [] l = l := by
  induction l with
  | nil => rfl
  | cons c l ih => rw [spread, List.flatMap_cons] ; rw [spread] at ih; rw [ih]; rfl
theorem hex_of {t x : List UInt8} {n : Nat} (h : hexF (-1) t = .inl (x, n)) (h60 : t.head? ≠ some 60) (hx : x.length ≤ 32767) : next (60 :: t) 0 = (⟨3, 0, (1 + n : Nat), 0, x⟩, 0) := by
  rw [next_open 60 t (by decide), token, List.drop_zero]
  simp only
  rw [if_neg (by decide), if_pos trivial, if_neg h60, Lx.hex]
  have : (60 :: t).drop (0 + 1) = t := rfl
  rw [this, h]
  simp only [told]
  rw [if_neg (by omega), Nat.zero_add]; rfl
theorem spread_head (ws l t : List UInt8) : (spread ws (Oc.hex l) ++ 62 :: t).head? ≠ some 60 := by
  cases l with
  | nil => simp [spread, Oc.hex]
  | cons c l =>
    have := (hex_facts c).2.2.2.2.2.2.2.2.2
    simp [spread, Oc.hex, hex1, this]
theorem hexs_next {ws l : List UInt8} (h : ws.all white = true) (h62 : (62 : UInt8) ∉ ws) (t : List UInt8) (hl : l.length ≤ 32767) : next ([60] ++ spread ws (Oc.hex l) ++ 62 :: t) 0 = (⟨3, 0, (1 + ((spread ws (Oc.hex l)).length + 1) : Nat), 0, l⟩, 0) := by
  have : [60] ++ spread ws (Oc.hex l) ++ 62 :: t = 60 :: (spread ws (Oc.hex l) ++ 62 :: t) := by simp
  rw [this]
  exact hex_of (hexF_spread h h62 t l) (spread_head ws l t) hl
theorem pHex_next {l : List UInt8} (hl : l.length ≤ 32767) : next ([60] ++ Oc.hex l ++ [62]) 0 = (⟨3, 0, ([60] ++ Oc.hex l ++ [62]).length, 0, l⟩, 0) := by
  have := hexs_next (ws := []) (l := l) rfl (by simp) [] hl
  rw [spread_nil] at this
  rw [this]
  simp only [List.length_append, List.length_singleton]
  rw [show 1 + ((Oc.hex l).length + 1) = 1 + (Oc.hex l).length + 1 by omega]
theorem octs_next {l : List UInt8} (t : List UInt8) (hl : l.length ≤ 32767) : next ([40] ++ l.flatMap Pl.oct ++ 41 :: t) 0 = (⟨3, 0, (1 + (1 + 4 * l.length) : Nat), 0, l⟩, 0) := by
  have : [40] ++ l.flatMap Pl.oct ++ 41 :: t = 40 :: (l.flatMap Pl.oct ++ 41 :: t) := by simp
  rw [this]
  exact text_of (by rw [textG_octs, textG_close]; simp) hl
/- NAMES -/
theorem nmOk_reg (c : UInt8) : Pl.nmOk c = true → regular c = true ∧ c ≠ 35 := by
  refine all8 (p := fun c => Pl.nmOk c = true → regular c = true ∧ c ≠ 35) ?_ c
  decide +kernel
theorem nmc_reg (c : UInt8) : (Pl.nmc c).all regular = true := by
  unfold Pl.nmc
  split
  · rename_i h; rw [List.all_cons, (nmOk_reg c h).1]; rfl
  · obtain ⟨-, -, -, -, -, -, -, f8, f9, -⟩ := hex_facts c
    simp only [Oc.hex, hex1, List.flatMap_cons, List.flatMap_nil, List.append_nil, List.cons_append, List.nil_append, List.all_cons, f8, f9, List.all_nil, Bool.and_true]
    decide
theorem nmcs_reg (l : List UInt8) : (l.flatMap Pl.nmc).all regular = true := by
  rw [List.all_flatMap, List.all_eq_true]
  exact fun c _ => nmc_reg c
theorem nameF_nmc : ∀ l : List UInt8, (0 : UInt8) ∉ l → nameF (l.flatMap Pl.nmc) = some l
  | [], _ => rfl
  | c :: l, h => by
    simp only [List.mem_cons, not_or] at h
    have ih := nameF_nmc l h.2
    rw [List.flatMap_cons]
    generalize l.flatMap Pl.nmc = z at *
    unfold Pl.nmc
    by_cases hc : Pl.nmOk c = true
    · rw [if_pos hc, List.cons_append, List.nil_append, nameF_ne (nmOk_reg c hc).2, ih]; rfl
    · rw [if_neg hc]
      obtain ⟨f1, f2, f3, -⟩ := hex_facts c
      have h0 : c.toNat ≠ 0 := fun e => h.1 (UInt8.toNat_inj.1 (by rw [e]; rfl))
      simp only [Oc.hex, hex1, List.flatMap_cons, List.flatMap_nil, List.append_nil, List.cons_append, List.nil_append]
      rw [nameF, if_pos rfl]
      simp only [f1, f2]
      rw [if_neg (by omega), ih, f3]; rfl
theorem name_next {l : List UInt8} (hl : l.length ≤ 127) (h0 : (0 : UInt8) ∉ l) : next (Pl.name l) 0 = (⟨4, 0, (Pl.name l).length, 0, l⟩, 0) := by
  have hs : Pl.name l = 47 :: l.flatMap Pl.nmc := by simp [Pl.name]
  rw [hs, next_open 47 _ (by decide), token, List.drop_zero]
  simp only
  rw [if_neg (by decide), if_neg (by decide), if_neg (by decide), if_pos trivial, Lx.name]
  have hd : (47 :: l.flatMap Pl.nmc).drop (0 + 1) = l.flatMap Pl.nmc := rfl
  have all_run : ∀ l : List UInt8, l.all regular = true → runF l = l.length := by
    intro l
    induction l with
    | nil => intro _; rfl
    | cons d l ih =>
      intro hl
      simp only [List.all_cons, Bool.and_eq_true] at hl
      rw [runF, if_pos hl.1, ih hl.2, List.length_cons]; omega
  have hrun : run (47 :: l.flatMap Pl.nmc) (0 + 1) = (47 :: l.flatMap Pl.nmc).length := by
    unfold run
    rw [hd, all_run _ (nmcs_reg l), List.length_cons]; omega
  have hcut : cut (47 :: l.flatMap Pl.nmc) (0 + 1) (47 :: l.flatMap Pl.nmc).length = l.flatMap Pl.nmc := by
    unfold cut
    rw [hd, List.take_of_length_le]
    rw [List.length_cons]; omega
  rw [hrun, hcut, nameF_nmc l h0]
  simp only [told]
  rw [if_neg (by omega)]; rfl
end Lx
end Go.Proofs.YtgffladaenimmaaGreatDoor
