/- Code in continuation form, by program (gen.py): 7 functions. -/
import Derived.Test.YtfnpfbgnhncgpaaDoorEngM
import Derived.Test.YtfnpfbgnhncgpaaDoorRows
namespace Go.Proofs.YtfnpfbgnhncgpaaDoor
set_option linter.unusedVariables false
set_option linter.unusedSimpArgs false
set_option linter.defProp false
set_option linter.unusedVariables false
set_option maxRecDepth 20000
open Eng

/- (*strings.Builder).copyCheck -/
def S_strings_Builder_copyCheck (t0 : Value) (w : World) (K : Ending → World → Prop) : Prop :=
 DoX Tryd.prog (mNil t0) w (pk K) fun t3 w =>
 DoX Tryd.prog (mFA 95 t3 0) w (pk K) fun t4 w =>
 DoX Tryd.prog (mLoad 84 t4) w (pk K) fun t5 w =>
 DoX Tryd.prog (mEq .eql 84 (.tmp 5) (.const (.pointer none)) t5 (.pointer none)) w (pk K) fun t6 w =>
 IfX t6 (DoX Tryd.prog (mConv 84 164 t0) w (pk K) fun t9 w =>
 DoX Tryd.prog (mCallV (.func (.func 173) #[] #[]) #[t9]) w (pk K) fun t10 w =>
 DoX Tryd.prog (mConv 164 84 t10) w (pk K) fun t11 w =>
 DoX Tryd.prog (mNil t0) w (pk K) fun t12 w =>
 DoX Tryd.prog (mFA 95 t12 0) w (pk K) fun t13 w =>
 DoX Tryd.prog (mStore 84 t13 t11) w (pk K) fun _ w =>
 K (.returned (.tuple #[])) w) (DoX Tryd.prog (mNil t0) w (pk K) fun t15 w =>
 DoX Tryd.prog (mFA 95 t15 0) w (pk K) fun t16 w =>
 DoX Tryd.prog (mLoad 84 t16) w (pk K) fun t17 w =>
 DoX Tryd.prog (mEq .neq 84 (.tmp 17) (.tmp 18) t17 t0) w (pk K) fun t19 w =>
 IfX t19 (False) (K (.returned (.tuple #[])) w))
theorem S_strings_Builder_copyCheck_eq (t0 : Value) (w : World) (K : Ending → World → Prop) : wpX Tryd.prog 20 [] [] (bodyOf Tryd.f132) (topQ Tryd.prog [] K) (startX [t0]) [] w = S_strings_Builder_copyCheck t0 w K := by kernel_rfl
theorem S_strings_Builder_copyCheck_ok {t0 : Value} {w : World} {K : Ending → World → Prop} (h : S_strings_Builder_copyCheck t0 w K) : Calls Tryd.prog 132 #[t0] w K :=
  calls_of_wpX Tryd.func132 rfl rfl rfl rfl (Eq.mpr (S_strings_Builder_copyCheck_eq t0 w K) h)

/- (*strings.Builder).WriteByte -/
def S_strings_Builder_WriteByte (t0 t1 : Value) (w : World) (K : Ending → World → Prop) : Prop :=
 CallX Tryd.prog 132 #[t0] w (pk K) fun t6 w =>
 DoX Tryd.prog (mNil t0) w (pk K) fun t9 w =>
 DoX Tryd.prog (mFA 95 t9 1) w (pk K) fun t10 w =>
 DoX Tryd.prog (mLoad 64 t10) w (pk K) fun t11 w =>
 DoX Tryd.prog (mBuildS 64 1 #[(0, t1)]) w (pk K) fun t13 w =>
 DoX Tryd.prog (mB .append #[64, 64] 64 #[false, false] #[t11, t13]) w (pk K) fun t14 w =>
 DoX Tryd.prog (mNil t0) w (pk K) fun t15 w =>
 DoX Tryd.prog (mFA 95 t15 1) w (pk K) fun t16 w =>
 DoX Tryd.prog (mStore 64 t16 t14) w (pk K) fun _ w =>
 K (.returned .nilIface) w
theorem S_strings_Builder_WriteByte_eq (t0 t1 : Value) (w : World) (K : Ending → World → Prop) : wpX Tryd.prog 17 [] [] (bodyOf Tryd.f84) (topQ Tryd.prog [.tmp 4] K) (startX [t0, t1]) [] w = S_strings_Builder_WriteByte t0 t1 w K := by kernel_rfl
theorem S_strings_Builder_WriteByte_ok {t0 t1 : Value} {w : World} {K : Ending → World → Prop} (h : S_strings_Builder_WriteByte t0 t1 w K) : Calls Tryd.prog 84 #[t0, t1] w K :=
  calls_of_wpX Tryd.func84 rfl rfl rfl rfl (Eq.mpr (S_strings_Builder_WriteByte_eq t0 t1 w K) h)

/- (*strings.Builder).WriteString -/
def S_strings_Builder_WriteString (t0 t1 : Value) (w : World) (K : Ending → World → Prop) : Prop :=
 CallX Tryd.prog 132 #[t0] w (pk K) fun t7 w =>
 DoX Tryd.prog (mNil t0) w (pk K) fun t10 w =>
 DoX Tryd.prog (mFA 95 t10 1) w (pk K) fun t11 w =>
 DoX Tryd.prog (mLoad 64 t11) w (pk K) fun t12 w =>
 DoX Tryd.prog (mB .append #[64, 9] 64 #[false, false] #[t12, t1]) w (pk K) fun t14 w =>
 DoX Tryd.prog (mNil t0) w (pk K) fun t15 w =>
 DoX Tryd.prog (mFA 95 t15 1) w (pk K) fun t16 w =>
 DoX Tryd.prog (mStore 64 t16 t14) w (pk K) fun _ w =>
 DoX Tryd.prog (mB .len #[9] 3 #[false] #[t1]) w (pk K) fun t18 w =>
 K (.returned (.tuple #[t18, .nilIface])) w
theorem S_strings_Builder_WriteString_eq (t0 t1 : Value) (w : World) (K : Ending → World → Prop) : wpX Tryd.prog 19 [] [] (bodyOf Tryd.f89) (topQ Tryd.prog [.tmp 4, .tmp 5] K) (startX [t0, t1]) [] w = S_strings_Builder_WriteString t0 t1 w K := by kernel_rfl
theorem S_strings_Builder_WriteString_ok {t0 t1 : Value} {w : World} {K : Ending → World → Prop} (h : S_strings_Builder_WriteString t0 t1 w K) : Calls Tryd.prog 89 #[t0, t1] w K :=
  calls_of_wpX Tryd.func89 rfl rfl rfl rfl (Eq.mpr (S_strings_Builder_WriteString_eq t0 t1 w K) h)

/- (*strings.Builder).String -/
def S_strings_Builder_String (t0 : Value) (w : World) (K : Ending → World → Prop) : Prop :=
 QuietX w (fun C1 =>
 QDo Tryd.prog C1 (mNil t0) fun t4 =>
 QDo Tryd.prog C1 (mFA 95 t4 1) fun t5 =>
 QDo Tryd.prog C1 (mLoad 64 t5) fun t6 =>
 QDo Tryd.prog C1 (mB .unsafeSliceData #[64] 132 #[false] #[t6]) fun t7 =>
 QDo Tryd.prog C1 (mNil t0) fun t9 =>
 QDo Tryd.prog C1 (mFA 95 t9 1) fun t10 =>
 QDo Tryd.prog C1 (mLoad 64 t10) fun t11 =>
 QDo Tryd.prog C1 (mB .len #[64] 3 #[false] #[t11]) fun t12 =>
 ∀ w, C1 w →
 DoX Tryd.prog (mB .unsafeString #[132, 3] 9 #[false, false] #[t7, t12]) w (pk K) fun t13 w =>
 K (.returned t13) w)
theorem S_strings_Builder_String_eq (t0 : Value) (w : World) (K : Ending → World → Prop) : wpX Tryd.prog 14 [] [] (bodyOf Tryd.f92) (topQ Tryd.prog [.tmp 2] K) (startX [t0]) [] w = S_strings_Builder_String t0 w K := by kernel_rfl
theorem S_strings_Builder_String_ok {t0 : Value} {w : World} {K : Ending → World → Prop} (h : S_strings_Builder_String t0 w K) : Calls Tryd.prog 92 #[t0] w K :=
  calls_of_wpX Tryd.func92 rfl rfl rfl rfl (Eq.mpr (S_strings_Builder_String_eq t0 w K) h)

/- (*strings.Builder).Grow -/
def S_strings_Builder_Grow_0 (t0 t1 : Value) (w : World) (K : Ending → World → Prop) : Prop :=
 QuietX w (fun C2 =>
 QDo Tryd.prog C2 (mNil t0) fun t10 =>
 QDo Tryd.prog C2 (mFA 95 t10 1) fun t11 =>
 QDo Tryd.prog C2 (mLoad 64 t11) fun t12 =>
 QDo Tryd.prog C2 (mB .cap #[64] 3 #[false] #[t12]) fun t13 =>
 QDo Tryd.prog C2 (mNil t0) fun t15 =>
 QDo Tryd.prog C2 (mFA 95 t15 1) fun t16 =>
 QDo Tryd.prog C2 (mLoad 64 t16) fun t17 =>
 QDo Tryd.prog C2 (mB .len #[64] 3 #[false] #[t17]) fun t18 =>
 QDo Tryd.prog C2 (mBin .sub 3 t13 t18) fun t19 =>
 QDo Tryd.prog C2 (mBin .lss 3 t19 t1) fun t21 =>
 ∀ w, C2 w →
 IfX t21 (CallX Tryd.prog 172 #[t0, t1] w (pk K) fun t24 w =>
 K (.returned (.tuple #[])) w) (K (.returned (.tuple #[])) w))
def S_strings_Builder_Grow (t0 t1 : Value) (w : World) (K : Ending → World → Prop) : Prop :=
 CallX Tryd.prog 132 #[t0] w (pk K) fun t5 w =>
 JoinX (fun J1 =>
 DoX Tryd.prog (mBin .lss 3 t1 (.int .i64 0)) w (pk K) fun t7 w =>
 IfX t7 (DoX Tryd.prog (mIface 9 (.string ⟨#[115, 116, 114, 105, 110, 103, 115, 46, 66, 117, 105, 108, 100, 101, 114, 46, 71, 114, 111, 119, 58, 32, 110, 101, 103, 97, 116, 105, 118, 101, 32, 99, 111, 117, 110, 116]⟩)) w (pk K) fun t8 w =>
 DoX Tryd.prog (mPanic t8) w (pk K) fun _ w =>
 J1 [] w) (J1 [] w)) (fun vs1 w => ∀ _ : Sg, S_strings_Builder_Grow_0 t0 t1 w K)
theorem S_strings_Builder_Grow_eq (t0 t1 : Value) (w : World) (K : Ending → World → Prop) : wpX Tryd.prog 25 [(3, [])] [] (bodyOf Tryd.f131) (topQ Tryd.prog [] K) (startX [t0, t1]) [] w = S_strings_Builder_Grow t0 t1 w K := by kernel_rfl
theorem S_strings_Builder_Grow_ok {t0 t1 : Value} {w : World} {K : Ending → World → Prop} (h : S_strings_Builder_Grow t0 t1 w K) : Calls Tryd.prog 131 #[t0, t1] w K :=
  calls_of_wpX Tryd.func131 rfl rfl rfl rfl (Eq.mpr (S_strings_Builder_Grow_eq t0 t1 w K) h)

/- (*strings.Builder).grow -/
def S_strings_Builder_grow (t0 t1 : Value) (w : World) (K : Ending → World → Prop) : Prop :=
 QuietX w (fun C1 =>
 QDo Tryd.prog C1 (mNil t0) fun t6 =>
 QDo Tryd.prog C1 (mFA 95 t6 1) fun t7 =>
 QDo Tryd.prog C1 (mLoad 64 t7) fun t8 =>
 QDo Tryd.prog C1 (mB .cap #[64] 3 #[false] #[t8]) fun t9 =>
 QDo Tryd.prog C1 (mBin .mul 3 (.int .i64 2) t9) fun t10 =>
 QDo Tryd.prog C1 (mBin .add 3 t10 t1) fun t12 =>
 QDo Tryd.prog C1 (mCallV (.func (.func 205) #[] #[]) #[t12]) fun t13 =>
 QDo Tryd.prog C1 (mNil t0) fun t15 =>
 QDo Tryd.prog C1 (mFA 95 t15 1) fun t16 =>
 QDo Tryd.prog C1 (mLoad 64 t16) fun t17 =>
 QDo Tryd.prog C1 (mB .len #[64] 3 #[false] #[t17]) fun t18 =>
 QDo Tryd.prog C1 (mSlice 64 t13 none (some t18) none) fun t19 =>
 ∀ w, C1 w →
 DoX Tryd.prog (mNil t0) w (pk K) fun t22 w =>
 DoX Tryd.prog (mFA 95 t22 1) w (pk K) fun t23 w =>
 DoX Tryd.prog (mLoad 64 t23) w (pk K) fun t24 w =>
 DoX Tryd.prog (mB .copy #[64, 64] 3 #[false, false] #[t19, t24]) w (pk K) fun t25 w =>
 DoX Tryd.prog (mNil t0) w (pk K) fun t28 w =>
 DoX Tryd.prog (mFA 95 t28 1) w (pk K) fun t29 w =>
 DoX Tryd.prog (mStore 64 t29 t19) w (pk K) fun _ w =>
 K (.returned (.tuple #[])) w)
theorem S_strings_Builder_grow_eq (t0 t1 : Value) (w : World) (K : Ending → World → Prop) : wpX Tryd.prog 30 [] [] (bodyOf Tryd.f172) (topQ Tryd.prog [] K) (startX [t0, t1]) [] w = S_strings_Builder_grow t0 t1 w K := by kernel_rfl
theorem S_strings_Builder_grow_ok {t0 t1 : Value} {w : World} {K : Ending → World → Prop} (h : S_strings_Builder_grow t0 t1 w K) : Calls Tryd.prog 172 #[t0, t1] w K :=
  calls_of_wpX Tryd.func172 rfl rfl rfl rfl (Eq.mpr (S_strings_Builder_grow_eq t0 t1 w K) h)

/- (*strings.Builder).Len -/
def S_strings_Builder_Len (t0 : Value) (w : World) (K : Ending → World → Prop) : Prop :=
 DoX Tryd.prog (mNil t0) w (pk K) fun t4 w =>
 DoX Tryd.prog (mFA 95 t4 1) w (pk K) fun t5 w =>
 DoX Tryd.prog (mLoad 64 t5) w (pk K) fun t6 w =>
 DoX Tryd.prog (mB .len #[64] 3 #[false] #[t6]) w (pk K) fun t7 w =>
 K (.returned t7) w
theorem S_strings_Builder_Len_eq (t0 : Value) (w : World) (K : Ending → World → Prop) : wpX Tryd.prog 8 [] [] (bodyOf Tryd.f137) (topQ Tryd.prog [.tmp 2] K) (startX [t0]) [] w = S_strings_Builder_Len t0 w K := by kernel_rfl
theorem S_strings_Builder_Len_ok {t0 : Value} {w : World} {K : Ending → World → Prop} (h : S_strings_Builder_Len t0 w K) : Calls Tryd.prog 137 #[t0] w K :=
  calls_of_wpX Tryd.func137 rfl rfl rfl rfl (Eq.mpr (S_strings_Builder_Len_eq t0 w K) h)

end Go.Proofs.YtfnpfbgnhncgpaaDoor
