/- Code in continuation form, by program (gen.py): 16 functions. -/
import Derived.Test.YtfnpfbgnhncgpaaDoorEngM
import Derived.Test.YtfnpfbgnhncgpaaDoorRows
namespace Go.Proofs.YtfnpfbgnhncgpaaDoor
set_option linter.unusedVariables false
set_option linter.unusedSimpArgs false
set_option linter.defProp false
set_option linter.unusedVariables false
set_option maxRecDepth 20000
open Eng

/- fix.face -/
def S_fix_face (t0 t1 r : Value) (w : World) (K : Ending → World → Prop) : Prop :=
 DoX Tryd.prog (mEq .eql 20 (.tmp 7) (.const .nilIface) r .nilIface) w (pk K) fun t9 w =>
 IfX t9 (K (.returned (.tuple #[])) w) (DoX Tryd.prog (mTA r 20 122 true) w (pk K) fun t10 w =>
 DoX Tryd.prog (mExt t10 1) w (pk K) fun t11 w =>
 DoX Tryd.prog (mExt t10 0) w (pk K) fun t12 w =>
 IfX t11 (DoX Tryd.prog (mNil t0) w (pk K) fun t16 w =>
 DoX Tryd.prog (mStore 2 t16 (.int .i64 0)) w (pk K) fun _ w =>
 DoX Tryd.prog (mNil t1) w (pk K) fun t17 w =>
 DoX Tryd.prog (mStore 23 t17 t12) w (pk K) fun _ w =>
 K (.returned (.tuple #[])) w) (DoX Tryd.prog (mPanic r) w (pk K) fun _ w =>
 K (.returned (.tuple #[])) w))
theorem S_fix_face_eq (t0 t1 r : Value) (w : World) (K : Ending → World → Prop) : wpX Tryd.prog 18 [] [] (sndOf (bodyOf Tryd.f65)) (topD Tryd.prog [] K) (upd (startX [t0, t1]) 7 r) [] w = S_fix_face t0 t1 r w K := by kernel_rfl
theorem S_fix_face_dok {t0 t1 : Value} {u : FrameMode} {w : World} {R : Ending → FrameMode → World → Prop} (h : S_fix_face t0 t1 (recV u) w (fun e w => R e (recM u) w)) : CallsD Tryd.prog 65 #[t0, t1] u w R :=
  callsD_recover Tryd.func65 rfl rfl rfl rfl rfl rfl rfl rfl (Eq.mpr (S_fix_face_eq t0 t1 (recV u) w _) h)

/- fix.within -/
def S_fix_within (t0 : Value) (w : World) (K : Ending → World → Prop) : Prop :=
 DoX Tryd.prog (mBin .geq 2 t0 (.int .i64 (-1073741824))) w (pk K) fun t4 w =>
 GDo t4 true (fun E => E t0 w) w fun t6 w =>
 GDo t4 true (fun E => DoX Tryd.prog (mBin .leq 2 t6 (.int .i64 1073741824)) w (pk K) E) w fun t7 w =>
 DoX Tryd.prog (mPick t4 t7 (.bool false)) w (pk K) fun t8 w =>
 K (.returned t8) w
theorem S_fix_within_eq (t0 : Value) (w : World) (K : Ending → World → Prop) : wpX Tryd.prog 9 [] [] (bodyOf Tryd.f75) (topQ Tryd.prog [.tmp 2] K) (startX [t0]) [] w = S_fix_within t0 w K := by kernel_rfl
theorem S_fix_within_ok {t0 : Value} {w : World} {K : Ending → World → Prop} (h : S_fix_within t0 w K) : Calls Tryd.prog 75 #[t0] w K :=
  calls_of_wpX Tryd.func75 rfl rfl rfl rfl (Eq.mpr (S_fix_within_eq t0 w K) h)

/- fix.bounded -/
def S_fix_bounded_1 (t6 : Value) (w : World) (N1 : List Value → World → Prop) (K : Ending → World → Prop) : Prop :=
 DoX Tryd.prog (mBin .add 3 t6 (.int .i64 1)) w (pk K) fun t14 w =>
 N1 [t14] w
def S_fix_bounded_0 (t4 t5 t6 : Value) (w : World) (N1 : List Value → World → Prop) (K : Ending → World → Prop) : Prop :=
 DoX Tryd.prog (mBin .lss 3 t6 t5) w (pk K) fun t7 w =>
 IfX t7 (JoinX (fun J2 =>
 DoX Tryd.prog (mIA 31 t4 t6) w (pk K) fun t8 w =>
 DoX Tryd.prog (mLoad 2 t8) w (pk K) fun t9 w =>
 CallX Tryd.prog 75 #[t9] w (pk K) fun t11 w =>
 DoX Tryd.prog (mUn .not t11) w (pk K) fun t12 w =>
 IfX t12 (DoX Tryd.prog (mIface 122 (.int .i64 2)) w (pk K) fun t13 w =>
 DoX Tryd.prog (mPanic t13) w (pk K) fun _ w =>
 J2 [] w) (J2 [] w)) (fun vs2 w => ∀ _ : Sg, S_fix_bounded_1 t6 w N1 K)) (K (.returned (.tuple #[])) w)
def S_fix_bounded (t0 : Value) (w : World) (K : Ending → World → Prop) : Prop :=
 DoX Tryd.prog (mB .len #[31] 3 #[false] #[t0]) w (pk K) fun t5 w =>
 LoopX [(.int .i64 0)] w (fun vs1 w N1 => ∀ _ : Sg, S_fix_bounded_0 t0 t5 (vs1.getD 0 undef) w N1 K)
theorem S_fix_bounded_eq (t0 : Value) (w : World) (K : Ending → World → Prop) : wpX Tryd.prog 15 [(5, [])] [(1, [6])] (bodyOf Tryd.f70) (topQ Tryd.prog [] K) (startX [t0]) [] w = S_fix_bounded t0 w K := by kernel_rfl
theorem S_fix_bounded_ok {t0 : Value} {w : World} {K : Ending → World → Prop} (h : S_fix_bounded t0 w K) : Calls Tryd.prog 70 #[t0] w K :=
  calls_of_wpX Tryd.func70 rfl rfl rfl rfl (Eq.mpr (S_fix_bounded_eq t0 w K) h)

/- fix.answer -/
def S_fix_answer (t0 : Value) (w : World) (K : Ending → World → Prop) : Prop :=
 DoX Tryd.prog (mBuildS 31 1 #[(0, t0)]) w (pk K) fun t4 w =>
 CallX Tryd.prog 70 #[t4] w (pk K) fun t5 w =>
 K (.returned t0) w
theorem S_fix_answer_eq (t0 : Value) (w : World) (K : Ending → World → Prop) : wpX Tryd.prog 7 [] [] (bodyOf Tryd.f78) (topQ Tryd.prog [.tmp 2] K) (startX [t0]) [] w = S_fix_answer t0 w K := by kernel_rfl
theorem S_fix_answer_ok {t0 : Value} {w : World} {K : Ending → World → Prop} (h : S_fix_answer t0 w K) : Calls Tryd.prog 78 #[t0] w K :=
  calls_of_wpX Tryd.func78 rfl rfl rfl rfl (Eq.mpr (S_fix_answer_eq t0 w K) h)

/- fix.nearest -/
def S_fix_nearest_1 (t5 : Value) (w : World) (K : Ending → World → Prop) : Prop :=
 K (.returned t5) w
def S_fix_nearest_0 (t1 t5 t6 : Value) (w : World) (K : Ending → World → Prop) : Prop :=
 JoinX (fun J3 =>
 DoX Tryd.prog (mBin .sub 2 t1 t6) w (pk K) fun t23 w =>
 DoX Tryd.prog (mBin .geq 2 t6 t23) w (pk K) fun t24 w =>
 IfX t24 (DoX Tryd.prog (mBin .add 2 t5 (.int .i64 1)) w (pk K) fun t26 w =>
 J3 [t26] w) (J3 [t5] w)) (fun vs3 w => ∀ _ : Sg, S_fix_nearest_1 (vs3.getD 0 undef) w K)
def S_fix_nearest (t0 t1 : Value) (w : World) (K : Ending → World → Prop) : Prop :=
 QuietX w (fun C1 =>
 QDo Tryd.prog C1 (mBin .quo 2 t0 t1) fun t9 =>
 QDo Tryd.prog C1 (mBin .rem 2 t0 t1) fun t12 =>
 ∀ w, C1 w →
 JoinX (fun J2 =>
 DoX Tryd.prog (mBin .lss 2 t12 (.int .i64 0)) w (pk K) fun t14 w =>
 IfX t14 (DoX Tryd.prog (mBin .sub 2 t9 (.int .i64 1)) w (pk K) fun t16 w =>
 DoX Tryd.prog (mBin .add 2 t12 t1) w (pk K) fun t19 w =>
 J2 [t16, t19] w) (J2 [t9, t12] w)) (fun vs2 w => ∀ _ : Sg, S_fix_nearest_0 t1 (vs2.getD 0 undef) (vs2.getD 1 undef) w K))
theorem S_fix_nearest_eq (t0 t1 : Value) (w : World) (K : Ending → World → Prop) : wpX Tryd.prog 28 [(4, [5, 6]), (6, [5])] [] (bodyOf Tryd.f73) (topQ Tryd.prog [.tmp 4] K) (startX [t0, t1]) [] w = S_fix_nearest t0 t1 w K := by kernel_rfl
theorem S_fix_nearest_ok {t0 t1 : Value} {w : World} {K : Ending → World → Prop} (h : S_fix_nearest t0 t1 w K) : Calls Tryd.prog 73 #[t0, t1] w K :=
  calls_of_wpX Tryd.func73 rfl rfl rfl rfl (Eq.mpr (S_fix_nearest_eq t0 t1 w K) h)

/- fix.Near -/
def S_fix_Near (t0 t1 : Value) (w : World) (K : Ending → World → Prop) : Prop :=
 DoX Tryd.prog (mBin .lss 2 t1 (.int .i64 1)) w (pk K) fun t8 w =>
 IfX t8 (K (.returned (.tuple #[(.int .i64 0), (.int .i64 1)])) w) (DoX Tryd.prog (mBin .lss 2 t0 (.int .i64 (-4611686018427387904))) w (pk K) fun t11 w =>
 GDo t11 false (fun E => E t0 w) w fun t13 w =>
 GDo t11 false (fun E => DoX Tryd.prog (mBin .gtr 2 t13 (.int .i64 4611686018427387904)) w (pk K) E) w fun t14 w =>
 DoX Tryd.prog (mPick t11 (.bool true) t14) w (pk K) fun t15 w =>
 IfX t15 (K (.returned (.tuple #[(.int .i64 0), (.int .i64 2)])) w) (CallX Tryd.prog 73 #[t0, t1] w (pk K) fun t18 w =>
 K (.returned (.tuple #[t18, (.int .i64 0)])) w))
theorem S_fix_Near_eq (t0 t1 : Value) (w : World) (K : Ending → World → Prop) : wpX Tryd.prog 19 [] [] (bodyOf Tryd.f20) (topQ Tryd.prog [.tmp 4, .tmp 5] K) (startX [t0, t1]) [] w = S_fix_Near t0 t1 w K := by kernel_rfl
theorem S_fix_Near_ok {t0 t1 : Value} {w : World} {K : Ending → World → Prop} (h : S_fix_Near t0 t1 w K) : Calls Tryd.prog 20 #[t0, t1] w K :=
  calls_of_wpX Tryd.func20 rfl rfl rfl rfl (Eq.mpr (S_fix_Near_eq t0 t1 w K) h)

/- fix.Whole -/
def S_fix_Whole (t0 : Value) (w : World) (K : Ending → World → Prop) : Prop :=
 CallX Tryd.prog 73 #[t0, (.int .i64 10000)] w (pk K) fun t4 w =>
 K (.returned t4) w
theorem S_fix_Whole_eq (t0 : Value) (w : World) (K : Ending → World → Prop) : wpX Tryd.prog 5 [] [] (bodyOf Tryd.f26) (topQ Tryd.prog [.tmp 2] K) (startX [t0]) [] w = S_fix_Whole t0 w K := by kernel_rfl
theorem S_fix_Whole_ok {t0 : Value} {w : World} {K : Ending → World → Prop} (h : S_fix_Whole t0 w K) : Calls Tryd.prog 26 #[t0] w K :=
  calls_of_wpX Tryd.func26 rfl rfl rfl rfl (Eq.mpr (S_fix_Whole_eq t0 w K) h)

/- fix.Mul -/
def S_fix_Mul_p0 (x0 : Value) (x1 : Value) (K : Ending → World → Prop) := pd Tryd.prog [.cell x0 2, .cell x1 23] K [{ target := .fn (.func 65) #[], args := #[x0, x1] }]
def S_fix_Mul (t0 t1 : Value) (w : World) (K : Ending → World → Prop) : Prop :=
 DoX Tryd.prog (mAlloc 2) w (pk K) fun t4 w =>
 DoX Tryd.prog (mAlloc 23) w (pk K) fun t5 w =>
 DoX Tryd.prog (mBuildS 31 2 #[(0, t0), (1, t1)]) w (S_fix_Mul_p0 t4 t5 K) fun t8 w =>
 CallX Tryd.prog 70 #[t8] w (S_fix_Mul_p0 t4 t5 K) fun t9 w =>
 DoX Tryd.prog (mBin .mul 2 t0 t1) w (S_fix_Mul_p0 t4 t5 K) fun t12 w =>
 CallX Tryd.prog 73 #[t12, (.int .i64 10000)] w (S_fix_Mul_p0 t4 t5 K) fun t13 w =>
 CallX Tryd.prog 78 #[t13] w (S_fix_Mul_p0 t4 t5 K) fun t14 w =>
 DoX Tryd.prog (mStore 2 t4 t14) w (S_fix_Mul_p0 t4 t5 K) fun _ w =>
 DoX Tryd.prog (mStore 23 t5 (.int .i64 0)) w (S_fix_Mul_p0 t4 t5 K) fun _ w =>
 Leave Tryd.prog [.cell t4 2, .cell t5 23] K [{ target := .fn (.func 65) #[], args := #[t4, t5] }] .returning w
theorem S_fix_Mul_eq (t0 t1 : Value) (w : World) (K : Ending → World → Prop) : wpX Tryd.prog 15 [] [] (bodyOf Tryd.f28) (topQ Tryd.prog [.cell 4 2, .cell 5 23] K) (startX [t0, t1]) [] w = S_fix_Mul t0 t1 w K := by kernel_rfl
theorem S_fix_Mul_ok {t0 t1 : Value} {w : World} {K : Ending → World → Prop} (h : S_fix_Mul t0 t1 w K) : Calls Tryd.prog 28 #[t0, t1] w K :=
  calls_of_wpX Tryd.func28 rfl rfl rfl rfl (Eq.mpr (S_fix_Mul_eq t0 t1 w K) h)

/- fix.Div -/
def S_fix_Div_p0 (x0 : Value) (x1 : Value) (K : Ending → World → Prop) := pd Tryd.prog [.cell x0 2, .cell x1 23] K [{ target := .fn (.func 65) #[], args := #[x0, x1] }]
def S_fix_Div_0 (t0 t1 t4 t5 : Value) (w : World) (K : Ending → World → Prop) : Prop :=
 DoX Tryd.prog (mBin .mul 2 (.int .i64 10000) t0) w (S_fix_Div_p0 t4 t5 K) fun t21 w =>
 CallX Tryd.prog 73 #[t21, t1] w (S_fix_Div_p0 t4 t5 K) fun t23 w =>
 CallX Tryd.prog 78 #[t23] w (S_fix_Div_p0 t4 t5 K) fun t24 w =>
 DoX Tryd.prog (mStore 2 t4 t24) w (S_fix_Div_p0 t4 t5 K) fun _ w =>
 DoX Tryd.prog (mStore 23 t5 (.int .i64 0)) w (S_fix_Div_p0 t4 t5 K) fun _ w =>
 Leave Tryd.prog [.cell t4 2, .cell t5 23] K [{ target := .fn (.func 65) #[], args := #[t4, t5] }] .returning w
def S_fix_Div (t0 t1 : Value) (w : World) (K : Ending → World → Prop) : Prop :=
 DoX Tryd.prog (mAlloc 2) w (pk K) fun t4 w =>
 DoX Tryd.prog (mAlloc 23) w (pk K) fun t5 w =>
 DoX Tryd.prog (mBuildS 31 2 #[(0, t0), (1, t1)]) w (S_fix_Div_p0 t4 t5 K) fun t8 w =>
 CallX Tryd.prog 70 #[t8] w (S_fix_Div_p0 t4 t5 K) fun t9 w =>
 JoinX (fun J1 =>
 DoX Tryd.prog (mEq .eql 2 (.tmp 11) (.const (.int .i64 0)) t1 (.int .i64 0)) w (S_fix_Div_p0 t4 t5 K) fun t12 w =>
 IfX t12 (DoX Tryd.prog (mStore 2 t4 (.int .i64 0)) w (S_fix_Div_p0 t4 t5 K) fun _ w =>
 DoX Tryd.prog (mStore 23 t5 (.int .i64 1)) w (S_fix_Div_p0 t4 t5 K) fun _ w =>
 Leave Tryd.prog [.cell t4 2, .cell t5 23] K [{ target := .fn (.func 65) #[], args := #[t4, t5] }] .returning w) (DoX Tryd.prog (mBin .lss 2 t1 (.int .i64 0)) w (S_fix_Div_p0 t4 t5 K) fun t15 w =>
 IfX t15 (DoX Tryd.prog (mUn .neg t0) w (S_fix_Div_p0 t4 t5 K) fun t17 w =>
 DoX Tryd.prog (mUn .neg t1) w (S_fix_Div_p0 t4 t5 K) fun t19 w =>
 AtX [{ target := .fn (.func 65) #[], args := #[t4, t5] }] [{ target := .fn (.func 65) #[], args := #[t4, t5] }] (J1 [t17, t19] w)) (AtX [{ target := .fn (.func 65) #[], args := #[t4, t5] }] [{ target := .fn (.func 65) #[], args := #[t4, t5] }] (J1 [t0, t1] w)))) (fun vs1 w => ∀ _ : Sg, S_fix_Div_0 (vs1.getD 0 undef) (vs1.getD 1 undef) t4 t5 w K)
theorem S_fix_Div_eq (t0 t1 : Value) (w : World) (K : Ending → World → Prop) : wpX Tryd.prog 25 [(7, [0, 1])] [] (bodyOf Tryd.f30) (topQ Tryd.prog [.cell 4 2, .cell 5 23] K) (startX [t0, t1]) [] w = S_fix_Div t0 t1 w K := by kernel_rfl
theorem S_fix_Div_ok {t0 t1 : Value} {w : World} {K : Ending → World → Prop} (h : S_fix_Div t0 t1 w K) : Calls Tryd.prog 30 #[t0, t1] w K :=
  calls_of_wpX Tryd.func30 rfl rfl rfl rfl (Eq.mpr (S_fix_Div_eq t0 t1 w K) h)

/- fix.Dot -/
def S_fix_Dot_p0 (x0 : Value) (x1 : Value) (K : Ending → World → Prop) := pd Tryd.prog [.cell x0 2, .cell x1 23] K [{ target := .fn (.func 65) #[], args := #[x0, x1] }]
def S_fix_Dot_0 (t0 t2 t3 t4 : Value) (w : World) (N1 : List Value → World → Prop) (K : Ending → World → Prop) : Prop :=
 DoX Tryd.prog (mB .len #[31] 3 #[false] #[t0]) w (S_fix_Dot_p0 t2 t3 K) fun t18 w =>
 DoX Tryd.prog (mBin .lss 3 t4 t18) w (S_fix_Dot_p0 t2 t3 K) fun t19 w =>
 IfX t19 (QuietX w (fun C2 =>
 QDo Tryd.prog C2 (mLoad 2 t2) fun t22 =>
 QDo Tryd.prog C2 (mIA 31 t0 t4) fun t25 =>
 QDo Tryd.prog C2 (mLoad 2 t25) fun t26 =>
 QDo Tryd.prog C2 (mBin .add 3 t4 (.int .i64 1)) fun t29 =>
 QDo Tryd.prog C2 (mIA 31 t0 t29) fun t30 =>
 QDo Tryd.prog C2 (mLoad 2 t30) fun t31 =>
 QDo Tryd.prog C2 (mBin .mul 2 t26 t31) fun t32 =>
 QDo Tryd.prog C2 (mBin .add 2 t22 t32) fun t33 =>
 ∀ w, C2 w →
 DoX Tryd.prog (mStore 2 t2 t33) w (S_fix_Dot_p0 t2 t3 K) fun _ w =>
 DoX Tryd.prog (mBin .add 3 t4 (.int .i64 2)) w (S_fix_Dot_p0 t2 t3 K) fun t21 w =>
 AtX [{ target := .fn (.func 65) #[], args := #[t2, t3] }] [{ target := .fn (.func 65) #[], args := #[t2, t3] }] (N1 [t21] w))) (DoX Tryd.prog (mLoad 2 t2) w (S_fix_Dot_p0 t2 t3 K) fun t34 w =>
 CallX Tryd.prog 73 #[t34, (.int .i64 10000)] w (S_fix_Dot_p0 t2 t3 K) fun t35 w =>
 CallX Tryd.prog 78 #[t35] w (S_fix_Dot_p0 t2 t3 K) fun t36 w =>
 DoX Tryd.prog (mStore 2 t2 t36) w (S_fix_Dot_p0 t2 t3 K) fun _ w =>
 DoX Tryd.prog (mStore 23 t3 (.int .i64 0)) w (S_fix_Dot_p0 t2 t3 K) fun _ w =>
 Leave Tryd.prog [.cell t2 2, .cell t3 23] K [{ target := .fn (.func 65) #[], args := #[t2, t3] }] .returning w)
def S_fix_Dot (t0 : Value) (w : World) (K : Ending → World → Prop) : Prop :=
 DoX Tryd.prog (mAlloc 2) w (pk K) fun t2 w =>
 DoX Tryd.prog (mAlloc 23) w (pk K) fun t3 w =>
 DoX Tryd.prog (mB .len #[31] 3 #[false] #[t0]) w (S_fix_Dot_p0 t2 t3 K) fun t6 w =>
 DoX Tryd.prog (mBin .rem 3 t6 (.int .i64 2)) w (S_fix_Dot_p0 t2 t3 K) fun t7 w =>
 DoX Tryd.prog (mEq .neq 3 (.tmp 7) (.const (.int .i64 0)) t7 (.int .i64 0)) w (S_fix_Dot_p0 t2 t3 K) fun t8 w =>
 GDo t8 false (fun E => E t0 w) w fun t10 w =>
 GDo t8 false (fun E => DoX Tryd.prog (mB .len #[31] 3 #[false] #[t10]) w (S_fix_Dot_p0 t2 t3 K) E) w fun t11 w =>
 GDo t8 false (fun E => DoX Tryd.prog (mBin .gtr 3 t11 (.int .i64 8)) w (S_fix_Dot_p0 t2 t3 K) E) w fun t12 w =>
 DoX Tryd.prog (mPick t8 (.bool true) t12) w (S_fix_Dot_p0 t2 t3 K) fun t13 w =>
 IfX t13 (DoX Tryd.prog (mStore 2 t2 (.int .i64 0)) w (S_fix_Dot_p0 t2 t3 K) fun _ w =>
 DoX Tryd.prog (mStore 23 t3 (.int .i64 1)) w (S_fix_Dot_p0 t2 t3 K) fun _ w =>
 Leave Tryd.prog [.cell t2 2, .cell t3 23] K [{ target := .fn (.func 65) #[], args := #[t2, t3] }] .returning w) (CallX Tryd.prog 70 #[t0] w (S_fix_Dot_p0 t2 t3 K) fun t15 w =>
 LoopX [(.int .i64 0)] w (fun vs1 w N1 => ∀ _ : Sg, S_fix_Dot_0 t0 t2 t3 (vs1.getD 0 undef) w N1 K))
theorem S_fix_Dot_eq (t0 : Value) (w : World) (K : Ending → World → Prop) : wpX Tryd.prog 37 [] [(6, [4])] (bodyOf Tryd.f32) (topQ Tryd.prog [.cell 2 2, .cell 3 23] K) (startX [t0]) [] w = S_fix_Dot t0 w K := by kernel_rfl
theorem S_fix_Dot_ok {t0 : Value} {w : World} {K : Ending → World → Prop} (h : S_fix_Dot t0 w K) : Calls Tryd.prog 32 #[t0] w K :=
  calls_of_wpX Tryd.func32 rfl rfl rfl rfl (Eq.mpr (S_fix_Dot_eq t0 w K) h)

/- fix.Sum -/
def S_fix_Sum_p0 (x0 : Value) (x1 : Value) (K : Ending → World → Prop) := pd Tryd.prog [.cell x0 2, .cell x1 23] K [{ target := .fn (.func 65) #[], args := #[x0, x1] }]
def S_fix_Sum_0 (t2 t3 t8 t9 t10 : Value) (w : World) (N1 : List Value → World → Prop) (K : Ending → World → Prop) : Prop :=
 DoX Tryd.prog (mBin .lss 3 t10 t9) w (S_fix_Sum_p0 t2 t3 K) fun t11 w =>
 IfX t11 (DoX Tryd.prog (mIA 31 t8 t10) w (S_fix_Sum_p0 t2 t3 K) fun t12 w =>
 DoX Tryd.prog (mLoad 2 t12) w (S_fix_Sum_p0 t2 t3 K) fun t13 w =>
 DoX Tryd.prog (mLoad 2 t2) w (S_fix_Sum_p0 t2 t3 K) fun t14 w =>
 DoX Tryd.prog (mBin .add 2 t14 t13) w (S_fix_Sum_p0 t2 t3 K) fun t16 w =>
 DoX Tryd.prog (mStore 2 t2 t16) w (S_fix_Sum_p0 t2 t3 K) fun _ w =>
 DoX Tryd.prog (mBin .add 3 t10 (.int .i64 1)) w (S_fix_Sum_p0 t2 t3 K) fun t17 w =>
 AtX [{ target := .fn (.func 65) #[], args := #[t2, t3] }] [{ target := .fn (.func 65) #[], args := #[t2, t3] }] (N1 [t17] w)) (DoX Tryd.prog (mLoad 2 t2) w (S_fix_Sum_p0 t2 t3 K) fun t18 w =>
 CallX Tryd.prog 78 #[t18] w (S_fix_Sum_p0 t2 t3 K) fun t19 w =>
 DoX Tryd.prog (mStore 2 t2 t19) w (S_fix_Sum_p0 t2 t3 K) fun _ w =>
 DoX Tryd.prog (mStore 23 t3 (.int .i64 0)) w (S_fix_Sum_p0 t2 t3 K) fun _ w =>
 Leave Tryd.prog [.cell t2 2, .cell t3 23] K [{ target := .fn (.func 65) #[], args := #[t2, t3] }] .returning w)
def S_fix_Sum (t0 : Value) (w : World) (K : Ending → World → Prop) : Prop :=
 DoX Tryd.prog (mAlloc 2) w (pk K) fun t2 w =>
 DoX Tryd.prog (mAlloc 23) w (pk K) fun t3 w =>
 CallX Tryd.prog 70 #[t0] w (S_fix_Sum_p0 t2 t3 K) fun t7 w =>
 DoX Tryd.prog (mB .len #[31] 3 #[false] #[t0]) w (S_fix_Sum_p0 t2 t3 K) fun t9 w =>
 LoopX [(.int .i64 0)] w (fun vs1 w N1 => ∀ _ : Sg, S_fix_Sum_0 t2 t3 t0 t9 (vs1.getD 0 undef) w N1 K)
theorem S_fix_Sum_eq (t0 : Value) (w : World) (K : Ending → World → Prop) : wpX Tryd.prog 20 [] [(4, [10])] (bodyOf Tryd.f34) (topQ Tryd.prog [.cell 2 2, .cell 3 23] K) (startX [t0]) [] w = S_fix_Sum t0 w K := by kernel_rfl
theorem S_fix_Sum_ok {t0 : Value} {w : World} {K : Ending → World → Prop} (h : S_fix_Sum t0 w K) : Calls Tryd.prog 34 #[t0] w K :=
  calls_of_wpX Tryd.func34 rfl rfl rfl rfl (Eq.mpr (S_fix_Sum_eq t0 w K) h)

/- fix.Root -/
def S_fix_Root_p0 (x0 : Value) (x1 : Value) (K : Ending → World → Prop) := pd Tryd.prog [.cell x0 2, .cell x1 23] K [{ target := .fn (.func 65) #[], args := #[x0, x1] }]
def S_fix_Root_1 (t2 t3 t5 : Value) (w : World) (N1 : List Value → World → Prop) (K : Ending → World → Prop) : Prop :=
 DoX Tryd.prog (mBin .quo 2 t5 (.int .i64 2)) w (S_fix_Root_p0 t2 t3 K) fun t16 w =>
 AtX [{ target := .fn (.func 65) #[], args := #[t2, t3] }] [{ target := .fn (.func 65) #[], args := #[t2, t3] }] (N1 [t16] w)
def S_fix_Root_0 (t2 t3 t4 t5 : Value) (w : World) (N1 : List Value → World → Prop) (K : Ending → World → Prop) : Prop :=
 DoX Tryd.prog (mBin .gtr 2 t5 (.int .i64 0)) w (S_fix_Root_p0 t2 t3 K) fun t14 w =>
 IfX t14 (JoinX (fun J2 =>
 DoX Tryd.prog (mLoad 2 t2) w (S_fix_Root_p0 t2 t3 K) fun t17 w =>
 DoX Tryd.prog (mBin .add 2 t17 t5) w (S_fix_Root_p0 t2 t3 K) fun t19 w =>
 DoX Tryd.prog (mLoad 2 t2) w (S_fix_Root_p0 t2 t3 K) fun t20 w =>
 DoX Tryd.prog (mBin .add 2 t20 t5) w (S_fix_Root_p0 t2 t3 K) fun t22 w =>
 DoX Tryd.prog (mBin .mul 2 t19 t22) w (S_fix_Root_p0 t2 t3 K) fun t23 w =>
 DoX Tryd.prog (mBin .leq 2 t23 t4) w (S_fix_Root_p0 t2 t3 K) fun t25 w =>
 IfX t25 (DoX Tryd.prog (mLoad 2 t2) w (S_fix_Root_p0 t2 t3 K) fun t26 w =>
 DoX Tryd.prog (mBin .add 2 t26 t5) w (S_fix_Root_p0 t2 t3 K) fun t28 w =>
 DoX Tryd.prog (mStore 2 t2 t28) w (S_fix_Root_p0 t2 t3 K) fun _ w =>
 AtX [{ target := .fn (.func 65) #[], args := #[t2, t3] }] [{ target := .fn (.func 65) #[], args := #[t2, t3] }] (J2 [] w)) (AtX [{ target := .fn (.func 65) #[], args := #[t2, t3] }] [{ target := .fn (.func 65) #[], args := #[t2, t3] }] (J2 [] w))) (fun vs2 w => ∀ _ : Sg, S_fix_Root_1 t2 t3 t5 w N1 K)) (DoX Tryd.prog (mLoad 2 t2) w (S_fix_Root_p0 t2 t3 K) fun t29 w =>
 DoX Tryd.prog (mStore 2 t2 t29) w (S_fix_Root_p0 t2 t3 K) fun _ w =>
 DoX Tryd.prog (mStore 23 t3 (.int .i64 0)) w (S_fix_Root_p0 t2 t3 K) fun _ w =>
 Leave Tryd.prog [.cell t2 2, .cell t3 23] K [{ target := .fn (.func 65) #[], args := #[t2, t3] }] .returning w)
def S_fix_Root (t0 : Value) (w : World) (K : Ending → World → Prop) : Prop :=
 DoX Tryd.prog (mAlloc 2) w (pk K) fun t2 w =>
 DoX Tryd.prog (mAlloc 23) w (pk K) fun t3 w =>
 DoX Tryd.prog (mBuildS 31 1 #[(0, t0)]) w (S_fix_Root_p0 t2 t3 K) fun t7 w =>
 CallX Tryd.prog 70 #[t7] w (S_fix_Root_p0 t2 t3 K) fun t8 w =>
 DoX Tryd.prog (mBin .lss 2 t0 (.int .i64 0)) w (S_fix_Root_p0 t2 t3 K) fun t10 w =>
 IfX t10 (DoX Tryd.prog (mStore 2 t2 (.int .i64 0)) w (S_fix_Root_p0 t2 t3 K) fun _ w =>
 DoX Tryd.prog (mStore 23 t3 (.int .i64 1)) w (S_fix_Root_p0 t2 t3 K) fun _ w =>
 Leave Tryd.prog [.cell t2 2, .cell t3 23] K [{ target := .fn (.func 65) #[], args := #[t2, t3] }] .returning w) (DoX Tryd.prog (mBin .mul 2 (.int .i64 10000) t0) w (S_fix_Root_p0 t2 t3 K) fun t12 w =>
 LoopX [(.int .i64 4194304)] w (fun vs1 w N1 => ∀ _ : Sg, S_fix_Root_0 t2 t3 t12 (vs1.getD 0 undef) w N1 K))
theorem S_fix_Root_eq (t0 : Value) (w : World) (K : Ending → World → Prop) : wpX Tryd.prog 30 [(8, [])] [(7, [5])] (bodyOf Tryd.f22) (topQ Tryd.prog [.cell 2 2, .cell 3 23] K) (startX [t0]) [] w = S_fix_Root t0 w K := by kernel_rfl
theorem S_fix_Root_ok {t0 : Value} {w : World} {K : Ending → World → Prop} (h : S_fix_Root t0 w K) : Calls Tryd.prog 22 #[t0] w K :=
  calls_of_wpX Tryd.func22 rfl rfl rfl rfl (Eq.mpr (S_fix_Root_eq t0 w K) h)

/- fix.row -/
def S_fix_row_0 (t0 t1 t5 : Value) (w : World) (N1 : List Value → World → Prop) (K : Ending → World → Prop) : Prop :=
 DoX Tryd.prog (mBin .gtr 2 t0 (.int .i64 0)) w (pk K) fun t7 w =>
 GDo t7 false (fun E => E t5 w) w fun t9 w =>
 GDo t7 false (fun E => DoX Tryd.prog (mB .len #[9] 3 #[false] #[t9]) w (pk K) E) w fun t10 w =>
 GDo t7 false (fun E => E t1 w) w fun t11 w =>
 GDo t7 false (fun E => DoX Tryd.prog (mBin .lss 3 t10 t11) w (pk K) E) w fun t12 w =>
 DoX Tryd.prog (mPick t7 (.bool true) t12) w (pk K) fun t13 w =>
 IfX t13 (DoX Tryd.prog (mBin .rem 2 t0 (.int .i64 10)) w (pk K) fun t15 w =>
 DoX Tryd.prog (mBin .add 2 (.int .i64 48) t15) w (pk K) fun t16 w =>
 DoX Tryd.prog (mConv 2 5 t16) w (pk K) fun t17 w =>
 DoX Tryd.prog (mBuildS 64 1 #[(0, t17)]) w (pk K) fun t18 w =>
 DoX Tryd.prog (mConv 64 9 t18) w (pk K) fun t19 w =>
 DoX Tryd.prog (mBin .add 9 t19 t5) w (pk K) fun t21 w =>
 DoX Tryd.prog (mBin .quo 2 t0 (.int .i64 10)) w (pk K) fun t23 w =>
 N1 [t23, t21] w) (K (.returned t5) w)
def S_fix_row (t0 t1 : Value) (w : World) (K : Ending → World → Prop) : Prop :=
 LoopX [t0, (.string ⟨#[]⟩)] w (fun vs1 w N1 => ∀ _ : Sg, S_fix_row_0 (vs1.getD 0 undef) t1 (vs1.getD 1 undef) w N1 K)
theorem S_fix_row_eq (t0 t1 : Value) (w : World) (K : Ending → World → Prop) : wpX Tryd.prog 25 [] [(2, [0, 5])] (bodyOf Tryd.f76) (topQ Tryd.prog [.tmp 4] K) (startX [t0, t1]) [] w = S_fix_row t0 t1 w K := by kernel_rfl
theorem S_fix_row_ok {t0 t1 : Value} {w : World} {K : Ending → World → Prop} (h : S_fix_row t0 t1 w K) : Calls Tryd.prog 76 #[t0, t1] w K :=
  calls_of_wpX Tryd.func76 rfl rfl rfl rfl (Eq.mpr (S_fix_row_eq t0 t1 w K) h)

/- fix.Text -/
def S_fix_Text_1 (t3 t4 t5 : Value) (w : World) (K : Ending → World → Prop) : Prop :=
 DoX Tryd.prog (mBin .add 9 t3 t4) w (pk K) fun t24 w =>
 DoX Tryd.prog (mBin .add 9 t24 (.string ⟨#[46]⟩)) w (pk K) fun t25 w =>
 DoX Tryd.prog (mBin .add 9 t25 t5) w (pk K) fun t27 w =>
 K (.returned t27) w
def S_fix_Text_0 (t0 t3 : Value) (w : World) (K : Ending → World → Prop) : Prop :=
 DoX Tryd.prog (mBin .quo 2 t0 (.int .i64 10000)) w (pk K) fun t14 w =>
 CallX Tryd.prog 76 #[t14, (.int .i64 1)] w (pk K) fun t15 w =>
 DoX Tryd.prog (mBin .rem 2 t0 (.int .i64 10000)) w (pk K) fun t17 w =>
 CallX Tryd.prog 76 #[t17, (.int .i64 4)] w (pk K) fun t18 w =>
 CallX Tryd.prog 69 #[t18, (.string ⟨#[48]⟩)] w (pk K) fun t19 w =>
 JoinX (fun J2 =>
 DoX Tryd.prog (mEq .eql 9 (.tmp 20) (.const (.string ⟨#[]⟩)) t19 (.string ⟨#[]⟩)) w (pk K) fun t21 w =>
 IfX t21 (J2 [(.string ⟨#[48]⟩)] w) (J2 [t19] w)) (fun vs2 w => ∀ _ : Sg, S_fix_Text_1 t3 t15 (vs2.getD 0 undef) w K)
def S_fix_Text (t0 : Value) (w : World) (K : Ending → World → Prop) : Prop :=
 CallX Tryd.prog 75 #[t0] w (pk K) fun t7 w =>
 DoX Tryd.prog (mUn .not t7) w (pk K) fun t8 w =>
 IfX t8 (K (.returned (.string ⟨#[]⟩)) w) (JoinX (fun J1 =>
 DoX Tryd.prog (mBin .lss 2 t0 (.int .i64 0)) w (pk K) fun t10 w =>
 IfX t10 (DoX Tryd.prog (mUn .neg t0) w (pk K) fun t12 w =>
 J1 [t12, (.string ⟨#[45]⟩)] w) (J1 [t0, (.string ⟨#[]⟩)] w)) (fun vs1 w => ∀ _ : Sg, S_fix_Text_0 (vs1.getD 0 undef) (vs1.getD 1 undef) w K))
theorem S_fix_Text_eq (t0 : Value) (w : World) (K : Ending → World → Prop) : wpX Tryd.prog 28 [(6, [0, 3]), (10, [5])] [] (bodyOf Tryd.f24) (topQ Tryd.prog [.tmp 2] K) (startX [t0]) [] w = S_fix_Text t0 w K := by kernel_rfl
theorem S_fix_Text_ok {t0 : Value} {w : World} {K : Ending → World → Prop} (h : S_fix_Text t0 w K) : Calls Tryd.prog 24 #[t0] w K :=
  calls_of_wpX Tryd.func24 rfl rfl rfl rfl (Eq.mpr (S_fix_Text_eq t0 w K) h)

/- fix.digits -/
def S_fix_digits (t0 : Value) (w : World) (K : Ending → World → Prop) : Prop :=
 CallX Tryd.prog 125 #[t0, (.string ⟨#[48, 49, 50, 51, 52, 53, 54, 55, 56, 57]⟩)] w (pk K) fun t4 w =>
 DoX Tryd.prog (mEq .eql 9 (.tmp 4) (.const (.string ⟨#[]⟩)) t4 (.string ⟨#[]⟩)) w (pk K) fun t5 w =>
 K (.returned t5) w
theorem S_fix_digits_eq (t0 : Value) (w : World) (K : Ending → World → Prop) : wpX Tryd.prog 6 [] [] (bodyOf Tryd.f68) (topQ Tryd.prog [.tmp 2] K) (startX [t0]) [] w = S_fix_digits t0 w K := by kernel_rfl
theorem S_fix_digits_ok {t0 : Value} {w : World} {K : Ending → World → Prop} (h : S_fix_digits t0 w K) : Calls Tryd.prog 68 #[t0] w K :=
  calls_of_wpX Tryd.func68 rfl rfl rfl rfl (Eq.mpr (S_fix_digits_eq t0 w K) h)

/- fix.Read -/
def S_fix_Read_p0 (x0 : Value) (x1 : Value) (K : Ending → World → Prop) := pd Tryd.prog [.cell x0 2, .cell x1 23] K [{ target := .fn (.func 65) #[], args := #[x0, x1] }]
def S_fix_Read_4 (t2 t3 : Value) (w : World) (K : Ending → World → Prop) : Prop :=
 DoX Tryd.prog (mLoad 2 t2) w (S_fix_Read_p0 t2 t3 K) fun t93 w =>
 DoX Tryd.prog (mBuildS 31 1 #[(0, t93)]) w (S_fix_Read_p0 t2 t3 K) fun t94 w =>
 CallX Tryd.prog 70 #[t94] w (S_fix_Read_p0 t2 t3 K) fun t95 w =>
 DoX Tryd.prog (mLoad 2 t2) w (S_fix_Read_p0 t2 t3 K) fun t96 w =>
 DoX Tryd.prog (mStore 2 t2 t96) w (S_fix_Read_p0 t2 t3 K) fun _ w =>
 DoX Tryd.prog (mStore 23 t3 (.int .i64 0)) w (S_fix_Read_p0 t2 t3 K) fun _ w =>
 Leave Tryd.prog [.cell t2 2, .cell t3 23] K [{ target := .fn (.func 65) #[], args := #[t2, t3] }] .returning w
def S_fix_Read_3 (t2 t3 t4 : Value) (w : World) (K : Ending → World → Prop) : Prop :=
 JoinX (fun J5 =>
 IfX t4 (DoX Tryd.prog (mLoad 2 t2) w (S_fix_Read_p0 t2 t3 K) fun t91 w =>
 DoX Tryd.prog (mUn .neg t91) w (S_fix_Read_p0 t2 t3 K) fun t92 w =>
 DoX Tryd.prog (mStore 2 t2 t92) w (S_fix_Read_p0 t2 t3 K) fun _ w =>
 AtX [{ target := .fn (.func 65) #[], args := #[t2, t3] }] [{ target := .fn (.func 65) #[], args := #[t2, t3] }] (J5 [] w)) (AtX [{ target := .fn (.func 65) #[], args := #[t2, t3] }] [{ target := .fn (.func 65) #[], args := #[t2, t3] }] (J5 [] w))) (fun vs5 w => ∀ _ : Sg, S_fix_Read_4 t2 t3 w K)
def S_fix_Read_2 (t2 t3 t4 t6 t62 : Value) (w : World) (N3 : List Value → World → Prop) (K : Ending → World → Prop) : Prop :=
 DoX Tryd.prog (mNext t62 true 0) w (S_fix_Read_p0 t2 t3 K) fun t63 w =>
 DoX Tryd.prog (mExt t63 0) w (S_fix_Read_p0 t2 t3 K) fun t64 w =>
 IfX t64 (DoX Tryd.prog (mExt t63 2) w (S_fix_Read_p0 t2 t3 K) fun t65 w =>
 DoX Tryd.prog (mLoad 2 t2) w (S_fix_Read_p0 t2 t3 K) fun t66 w =>
 DoX Tryd.prog (mBin .mul 2 (.int .i64 10) t66) w (S_fix_Read_p0 t2 t3 K) fun t67 w =>
 DoX Tryd.prog (mBin .sub 21 t65 (.int .i32 48)) w (S_fix_Read_p0 t2 t3 K) fun t69 w =>
 DoX Tryd.prog (mConv 21 2 t69) w (S_fix_Read_p0 t2 t3 K) fun t70 w =>
 DoX Tryd.prog (mBin .add 2 t67 t70) w (S_fix_Read_p0 t2 t3 K) fun t71 w =>
 DoX Tryd.prog (mStore 2 t2 t71) w (S_fix_Read_p0 t2 t3 K) fun _ w =>
 AtX [{ target := .fn (.func 65) #[], args := #[t2, t3] }] [{ target := .fn (.func 65) #[], args := #[t2, t3] }] (N3 [] w)) (DoX Tryd.prog (mSlice 9 t6 (some (.int .i64 4)) none none) w (S_fix_Read_p0 t2 t3 K) fun t73 w =>
 CallX Tryd.prog 69 #[t73, (.string ⟨#[48]⟩)] w (S_fix_Read_p0 t2 t3 K) fun t74 w =>
 JoinX (fun J4 =>
 GDo t4 true (fun E => E t74 w) w fun t77 w =>
 GDo t4 true (fun E => DoX Tryd.prog (mBin .gtr 9 t77 (.string ⟨#[53]⟩)) w (S_fix_Read_p0 t2 t3 K) E) w fun t78 w =>
 DoX Tryd.prog (mPick t4 t78 (.bool false)) w (S_fix_Read_p0 t2 t3 K) fun t79 w =>
 GDo t79 false (fun E => E t4 w) w fun t81 w =>
 GDo t79 false (fun E => DoX Tryd.prog (mUn .not t81) w (S_fix_Read_p0 t2 t3 K) E) w fun t82 w =>
 GDo t79 false (fun E => E t82 w) w fun t83 w =>
 GDo t83 true (fun E => E t74 w) w fun t84 w =>
 GDo t83 true (fun E => DoX Tryd.prog (mBin .geq 9 t84 (.string ⟨#[53]⟩)) w (S_fix_Read_p0 t2 t3 K) E) w fun t85 w =>
 GDo t79 false (fun E => DoX Tryd.prog (mPick t83 t85 (.bool false)) w (S_fix_Read_p0 t2 t3 K) E) w fun t86 w =>
 DoX Tryd.prog (mPick t79 (.bool true) t86) w (S_fix_Read_p0 t2 t3 K) fun t87 w =>
 IfX t87 (DoX Tryd.prog (mLoad 2 t2) w (S_fix_Read_p0 t2 t3 K) fun t88 w =>
 DoX Tryd.prog (mBin .add 2 t88 (.int .i64 1)) w (S_fix_Read_p0 t2 t3 K) fun t89 w =>
 DoX Tryd.prog (mStore 2 t2 t89) w (S_fix_Read_p0 t2 t3 K) fun _ w =>
 AtX [{ target := .fn (.func 65) #[], args := #[t2, t3] }] [{ target := .fn (.func 65) #[], args := #[t2, t3] }] (J4 [] w)) (AtX [{ target := .fn (.func 65) #[], args := #[t2, t3] }] [{ target := .fn (.func 65) #[], args := #[t2, t3] }] (J4 [] w))) (fun vs4 w => ∀ _ : Sg, S_fix_Read_3 t2 t3 t4 w K))
def S_fix_Read_1 (t2 t3 t4 t6 t46 : Value) (w : World) (N2 : List Value → World → Prop) (K : Ending → World → Prop) : Prop :=
 DoX Tryd.prog (mNext t46 true 0) w (S_fix_Read_p0 t2 t3 K) fun t47 w =>
 DoX Tryd.prog (mExt t47 0) w (S_fix_Read_p0 t2 t3 K) fun t48 w =>
 IfX t48 (DoX Tryd.prog (mExt t47 2) w (S_fix_Read_p0 t2 t3 K) fun t49 w =>
 DoX Tryd.prog (mLoad 2 t2) w (S_fix_Read_p0 t2 t3 K) fun t50 w =>
 DoX Tryd.prog (mBin .mul 2 (.int .i64 10) t50) w (S_fix_Read_p0 t2 t3 K) fun t51 w =>
 DoX Tryd.prog (mBin .sub 21 t49 (.int .i32 48)) w (S_fix_Read_p0 t2 t3 K) fun t53 w =>
 DoX Tryd.prog (mConv 21 2 t53) w (S_fix_Read_p0 t2 t3 K) fun t54 w =>
 DoX Tryd.prog (mBin .add 2 t51 t54) w (S_fix_Read_p0 t2 t3 K) fun t55 w =>
 DoX Tryd.prog (mStore 2 t2 t55) w (S_fix_Read_p0 t2 t3 K) fun _ w =>
 DoX Tryd.prog (mLoad 2 t2) w (S_fix_Read_p0 t2 t3 K) fun t56 w =>
 DoX Tryd.prog (mBin .gtr 2 t56 (.int .i64 1073741824)) w (S_fix_Read_p0 t2 t3 K) fun t57 w =>
 IfX t57 (DoX Tryd.prog (mStore 2 t2 (.int .i64 0)) w (S_fix_Read_p0 t2 t3 K) fun _ w =>
 DoX Tryd.prog (mStore 23 t3 (.int .i64 2)) w (S_fix_Read_p0 t2 t3 K) fun _ w =>
 Leave Tryd.prog [.cell t2 2, .cell t3 23] K [{ target := .fn (.func 65) #[], args := #[t2, t3] }] .returning w) (AtX [{ target := .fn (.func 65) #[], args := #[t2, t3] }] [{ target := .fn (.func 65) #[], args := #[t2, t3] }] (N2 [] w))) (DoX Tryd.prog (mBin .add 9 t6 (.string ⟨#[48, 48, 48, 48, 48]⟩)) w (S_fix_Read_p0 t2 t3 K) fun t59 w =>
 DoX Tryd.prog (mSlice 9 t59 none (some (.int .i64 4)) none) w (S_fix_Read_p0 t2 t3 K) fun t61 w =>
 DoX Tryd.prog (mRange 9 t61) w (S_fix_Read_p0 t2 t3 K) fun t62 w =>
 LoopX [] w (fun vs3 w N3 => ∀ _ : Sg, S_fix_Read_2 t2 t3 t4 t59 t62 w N3 K))
def S_fix_Read_0 (t0 t2 t3 t4 : Value) (w : World) (K : Ending → World → Prop) : Prop :=
 CallX Tryd.prog 67 #[t0, (.string ⟨#[46]⟩)] w (S_fix_Read_p0 t2 t3 K) fun t27 w =>
 DoX Tryd.prog (mExt t27 0) w (S_fix_Read_p0 t2 t3 K) fun t28 w =>
 DoX Tryd.prog (mExt t27 1) w (S_fix_Read_p0 t2 t3 K) fun t29 w =>
 DoX Tryd.prog (mExt t27 2) w (S_fix_Read_p0 t2 t3 K) fun t30 w =>
 DoX Tryd.prog (mBin .add 9 t28 t29) w (S_fix_Read_p0 t2 t3 K) fun t33 w =>
 DoX Tryd.prog (mEq .eql 9 (.tmp 33) (.const (.string ⟨#[]⟩)) t33 (.string ⟨#[]⟩)) w (S_fix_Read_p0 t2 t3 K) fun t34 w =>
 GDo t34 false (fun E => E t28 w) w fun t36 w =>
 GDo t34 false (fun E => CallX Tryd.prog 68 #[t36] w (S_fix_Read_p0 t2 t3 K) E) w fun t37 w =>
 GDo t34 false (fun E => DoX Tryd.prog (mUn .not t37) w (S_fix_Read_p0 t2 t3 K) E) w fun t38 w =>
 DoX Tryd.prog (mPick t34 (.bool true) t38) w (S_fix_Read_p0 t2 t3 K) fun t39 w =>
 GDo t39 false (fun E => E t29 w) w fun t41 w =>
 GDo t39 false (fun E => CallX Tryd.prog 68 #[t41] w (S_fix_Read_p0 t2 t3 K) E) w fun t42 w =>
 GDo t39 false (fun E => DoX Tryd.prog (mUn .not t42) w (S_fix_Read_p0 t2 t3 K) E) w fun t43 w =>
 DoX Tryd.prog (mPick t39 (.bool true) t43) w (S_fix_Read_p0 t2 t3 K) fun t44 w =>
 IfX t44 (DoX Tryd.prog (mStore 2 t2 (.int .i64 0)) w (S_fix_Read_p0 t2 t3 K) fun _ w =>
 DoX Tryd.prog (mStore 23 t3 (.int .i64 3)) w (S_fix_Read_p0 t2 t3 K) fun _ w =>
 Leave Tryd.prog [.cell t2 2, .cell t3 23] K [{ target := .fn (.func 65) #[], args := #[t2, t3] }] .returning w) (DoX Tryd.prog (mRange 9 t28) w (S_fix_Read_p0 t2 t3 K) fun t46 w =>
 LoopX [] w (fun vs2 w N2 => ∀ _ : Sg, S_fix_Read_1 t2 t3 t4 t29 t46 w N2 K))
def S_fix_Read (t0 : Value) (w : World) (K : Ending → World → Prop) : Prop :=
 DoX Tryd.prog (mAlloc 2) w (pk K) fun t2 w =>
 DoX Tryd.prog (mAlloc 23) w (pk K) fun t3 w =>
 DoX Tryd.prog (mB .len #[9] 3 #[false] #[t0]) w (S_fix_Read_p0 t2 t3 K) fun t14 w =>
 DoX Tryd.prog (mBin .gtr 3 t14 (.int .i64 40)) w (S_fix_Read_p0 t2 t3 K) fun t15 w =>
 IfX t15 (DoX Tryd.prog (mStore 2 t2 (.int .i64 0)) w (S_fix_Read_p0 t2 t3 K) fun _ w =>
 DoX Tryd.prog (mStore 23 t3 (.int .i64 3)) w (S_fix_Read_p0 t2 t3 K) fun _ w =>
 Leave Tryd.prog [.cell t2 2, .cell t3 23] K [{ target := .fn (.func 65) #[], args := #[t2, t3] }] .returning w) (CallX Tryd.prog 66 #[t0, (.string ⟨#[45]⟩)] w (S_fix_Read_p0 t2 t3 K) fun t17 w =>
 JoinX (fun J1 =>
 GDo t17 false (fun E => E t0 w) w fun t20 w =>
 GDo t17 false (fun E => CallX Tryd.prog 66 #[t20, (.string ⟨#[43]⟩)] w (S_fix_Read_p0 t2 t3 K) E) w fun t21 w =>
 DoX Tryd.prog (mPick t17 (.bool true) t21) w (S_fix_Read_p0 t2 t3 K) fun t22 w =>
 IfX t22 (DoX Tryd.prog (mSlice 9 t0 (some (.int .i64 1)) none none) w (S_fix_Read_p0 t2 t3 K) fun t24 w =>
 AtX [{ target := .fn (.func 65) #[], args := #[t2, t3] }] [{ target := .fn (.func 65) #[], args := #[t2, t3] }] (J1 [t24] w)) (AtX [{ target := .fn (.func 65) #[], args := #[t2, t3] }] [{ target := .fn (.func 65) #[], args := #[t2, t3] }] (J1 [t0] w))) (fun vs1 w => ∀ _ : Sg, S_fix_Read_0 (vs1.getD 0 undef) t2 t3 t17 w K))
theorem S_fix_Read_eq (t0 : Value) (w : World) (K : Ending → World → Prop) : wpX Tryd.prog 97 [(7, [0]), (24, []), (26, [])] [(11, []), (18, [])] (bodyOf Tryd.f18) (topQ Tryd.prog [.cell 2 2, .cell 3 23] K) (startX [t0]) [] w = S_fix_Read t0 w K := by kernel_rfl
theorem S_fix_Read_ok {t0 : Value} {w : World} {K : Ending → World → Prop} (h : S_fix_Read t0 w K) : Calls Tryd.prog 18 #[t0] w K :=
  calls_of_wpX Tryd.func18 rfl rfl rfl rfl (Eq.mpr (S_fix_Read_eq t0 w K) h)

end Go.Proofs.YtfnpfbgnhncgpaaDoor
