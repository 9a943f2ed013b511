/- Code in continuation form, by program (gen.py): 13 functions. -/
import Derived.Test.YtfnpfbgnhncgpaaDoorEngM
import Derived.Test.YtfnpfbgnhncgpaaDoorRows
namespace Go.Proofs.YtfnpfbgnhncgpaaDoor
set_option linter.unusedVariables false
set_option linter.unusedSimpArgs false
set_option linter.defProp false
set_option linter.unusedVariables false
set_option maxRecDepth 20000
open Eng

/- strings.HasPrefix -/
def S_strings_HasPrefix (t0 t1 : Value) (w : World) (K : Ending → World → Prop) : Prop :=
 CallX Tryd.prog 123 #[t0, t1] w (pk K) fun t7 w =>
 K (.returned t7) w
theorem S_strings_HasPrefix_eq (t0 t1 : Value) (w : World) (K : Ending → World → Prop) : wpX Tryd.prog 8 [] [] (bodyOf Tryd.f66) (topQ Tryd.prog [.tmp 4] K) (startX [t0, t1]) [] w = S_strings_HasPrefix t0 t1 w K := by kernel_rfl
theorem S_strings_HasPrefix_ok {t0 t1 : Value} {w : World} {K : Ending → World → Prop} (h : S_strings_HasPrefix t0 t1 w K) : Calls Tryd.prog 66 #[t0, t1] w K :=
  calls_of_wpX Tryd.func66 rfl rfl rfl rfl (Eq.mpr (S_strings_HasPrefix_eq t0 t1 w K) h)

/- internal/stringslite.HasPrefix -/
def S_internal_stringslite_HasPrefix (t0 t1 : Value) (w : World) (K : Ending → World → Prop) : Prop :=
 DoX Tryd.prog (mB .len #[9] 3 #[false] #[t0]) w (pk K) fun t6 w =>
 DoX Tryd.prog (mB .len #[9] 3 #[false] #[t1]) w (pk K) fun t8 w =>
 DoX Tryd.prog (mBin .geq 3 t6 t8) w (pk K) fun t9 w =>
 GDo t9 true (fun E => E t0 w) w fun t11 w =>
 GDo t9 true (fun E => E t1 w) w fun t12 w =>
 GDo t9 true (fun E => DoX Tryd.prog (mB .len #[9] 3 #[false] #[t12]) w (pk K) E) w fun t13 w =>
 GDo t9 true (fun E => DoX Tryd.prog (mSlice 9 t11 none (some t13) none) w (pk K) E) w fun t14 w =>
 GDo t9 true (fun E => E t1 w) w fun t15 w =>
 GDo t9 true (fun E => DoX Tryd.prog (mEq .eql 9 (.tmp 14) (.tmp 15) t14 t15) w (pk K) E) w fun t16 w =>
 DoX Tryd.prog (mPick t9 t16 (.bool false)) w (pk K) fun t17 w =>
 K (.returned t17) w
theorem S_internal_stringslite_HasPrefix_eq (t0 t1 : Value) (w : World) (K : Ending → World → Prop) : wpX Tryd.prog 18 [] [] (bodyOf Tryd.f123) (topQ Tryd.prog [.tmp 4] K) (startX [t0, t1]) [] w = S_internal_stringslite_HasPrefix t0 t1 w K := by kernel_rfl
theorem S_internal_stringslite_HasPrefix_ok {t0 t1 : Value} {w : World} {K : Ending → World → Prop} (h : S_internal_stringslite_HasPrefix t0 t1 w K) : Calls Tryd.prog 123 #[t0, t1] w K :=
  calls_of_wpX Tryd.func123 rfl rfl rfl rfl (Eq.mpr (S_internal_stringslite_HasPrefix_eq t0 t1 w K) h)

/- strings.Cut -/
def S_strings_Cut (t0 t1 : Value) (w : World) (K : Ending → World → Prop) : Prop :=
 CallX Tryd.prog 124 #[t0, t1] w (pk K) fun t9 w =>
 DoX Tryd.prog (mExt t9 0) w (pk K) fun t10 w =>
 DoX Tryd.prog (mExt t9 1) w (pk K) fun t11 w =>
 DoX Tryd.prog (mExt t9 2) w (pk K) fun t12 w =>
 K (.returned (.tuple #[t10, t11, t12])) w
theorem S_strings_Cut_eq (t0 t1 : Value) (w : World) (K : Ending → World → Prop) : wpX Tryd.prog 13 [] [] (bodyOf Tryd.f67) (topQ Tryd.prog [.tmp 4, .tmp 5, .tmp 6] K) (startX [t0, t1]) [] w = S_strings_Cut t0 t1 w K := by kernel_rfl
theorem S_strings_Cut_ok {t0 t1 : Value} {w : World} {K : Ending → World → Prop} (h : S_strings_Cut t0 t1 w K) : Calls Tryd.prog 67 #[t0, t1] w K :=
  calls_of_wpX Tryd.func67 rfl rfl rfl rfl (Eq.mpr (S_strings_Cut_eq t0 t1 w K) h)

/- internal/stringslite.Cut -/
def S_internal_stringslite_Cut (t0 t1 : Value) (w : World) (K : Ending → World → Prop) : Prop :=
 CallX Tryd.prog 161 #[t0, t1] w (pk K) fun t10 w =>
 DoX Tryd.prog (mBin .geq 3 t10 (.int .i64 0)) w (pk K) fun t12 w =>
 IfX t12 (QuietX w (fun C1 =>
 QDo Tryd.prog C1 (mSlice 9 t0 none (some t10) none) fun t15 =>
 QDo Tryd.prog C1 (mB .len #[9] 3 #[false] #[t1]) fun t19 =>
 QDo Tryd.prog C1 (mBin .add 3 t10 t19) fun t20 =>
 QDo Tryd.prog C1 (mSlice 9 t0 (some t20) none none) fun t21 =>
 ∀ w, C1 w →
 K (.returned (.tuple #[t15, t21, (.bool true)])) w)) (K (.returned (.tuple #[t0, (.string ⟨#[]⟩), (.bool false)])) w)
theorem S_internal_stringslite_Cut_eq (t0 t1 : Value) (w : World) (K : Ending → World → Prop) : wpX Tryd.prog 23 [] [] (bodyOf Tryd.f124) (topQ Tryd.prog [.tmp 4, .tmp 5, .tmp 6] K) (startX [t0, t1]) [] w = S_internal_stringslite_Cut t0 t1 w K := by kernel_rfl
theorem S_internal_stringslite_Cut_ok {t0 t1 : Value} {w : World} {K : Ending → World → Prop} (h : S_internal_stringslite_Cut t0 t1 w K) : Calls Tryd.prog 124 #[t0, t1] w K :=
  calls_of_wpX Tryd.func124 rfl rfl rfl rfl (Eq.mpr (S_internal_stringslite_Cut_eq t0 t1 w K) h)

/- internal/stringslite.IndexByte -/
def S_internal_stringslite_IndexByte (t0 t1 : Value) (w : World) (K : Ending → World → Prop) : Prop :=
 DoX Tryd.prog (mCallV (.func (.func 174) #[] #[]) #[t0, t1]) w (pk K) fun t7 w =>
 K (.returned t7) w
theorem S_internal_stringslite_IndexByte_eq (t0 t1 : Value) (w : World) (K : Ending → World → Prop) : wpX Tryd.prog 8 [] [] (bodyOf Tryd.f133) (topQ Tryd.prog [.tmp 4] K) (startX [t0, t1]) [] w = S_internal_stringslite_IndexByte t0 t1 w K := by kernel_rfl
theorem S_internal_stringslite_IndexByte_ok {t0 t1 : Value} {w : World} {K : Ending → World → Prop} (h : S_internal_stringslite_IndexByte t0 t1 w K) : Calls Tryd.prog 133 #[t0, t1] w K :=
  calls_of_wpX Tryd.func133 rfl rfl rfl rfl (Eq.mpr (S_internal_stringslite_IndexByte_eq t0 t1 w K) h)

/- internal/stringslite.Index -/
def S_internal_stringslite_Index_1 (t0 t1 t5 t7 t8 t9 t10 : Value) (w : World) (N1 : List Value → World → Prop) (K : Ending → World → Prop) : Prop :=
 DoX Tryd.prog (mBin .add 3 t8 (.int .i64 1)) w (pk K) fun t80 w =>
 DoX Tryd.prog (mIx 9 t0 t80) w (pk K) fun t81 w =>
 DoX Tryd.prog (mEq .eql 5 (.tmp 81) (.tmp 82) t81 t7) w (pk K) fun t83 w =>
 GDo t83 true (fun E => E t0 w) w fun t85 w =>
 GDo t83 true (fun E => E t8 w) w fun t86 w =>
 GDo t83 true (fun E => E t8 w) w fun t87 w =>
 GDo t83 true (fun E => E t5 w) w fun t88 w =>
 GDo t83 true (fun E => DoX Tryd.prog (mBin .add 3 t87 t88) w (pk K) E) w fun t89 w =>
 GDo t83 true (fun E => DoX Tryd.prog (mSlice 9 t85 (some t86) (some t89) none) w (pk K) E) w fun t90 w =>
 GDo t83 true (fun E => E t1 w) w fun t91 w =>
 GDo t83 true (fun E => DoX Tryd.prog (mEq .eql 9 (.tmp 90) (.tmp 91) t90 t91) w (pk K) E) w fun t92 w =>
 DoX Tryd.prog (mPick t83 t92 (.bool false)) w (pk K) fun t93 w =>
 IfX t93 (K (.returned t8) w) (DoX Tryd.prog (mBin .add 3 t8 (.int .i64 1)) w (pk K) fun t96 w =>
 DoX Tryd.prog (mBin .add 3 t10 (.int .i64 1)) w (pk K) fun t98 w =>
 DoX Tryd.prog (mLoad 3 (.pointer (some ⟨0, 0, none⟩))) w (pk K) fun t100 w =>
 DoX Tryd.prog (mBin .leq 3 t5 t100) w (pk K) fun t101 w =>
 GDo t101 true (fun E => E t98 w) w fun t103 w =>
 GDo t101 true (fun E => E t96 w) w fun t104 w =>
 GDo t101 true (fun E => CallX Tryd.prog 195 #[t104] w (pk K) E) w fun t105 w =>
 GDo t101 true (fun E => DoX Tryd.prog (mBin .gtr 3 t103 t105) w (pk K) E) w fun t106 w =>
 DoX Tryd.prog (mPick t101 t106 (.bool false)) w (pk K) fun t107 w =>
 IfX t107 (DoX Tryd.prog (mSlice 9 t0 (some t96) none none) w (pk K) fun t110 w =>
 DoX Tryd.prog (mCallV (.func (.func 194) #[] #[]) #[t110, t1]) w (pk K) fun t112 w =>
 DoX Tryd.prog (mBin .geq 3 t112 (.int .i64 0)) w (pk K) fun t114 w =>
 IfX t114 (DoX Tryd.prog (mBin .add 3 t112 t96) w (pk K) fun t117 w =>
 K (.returned t117) w) (K (.returned (.int .i64 (-1))) w)) (DoX Tryd.prog (mLoad 3 (.pointer (some ⟨0, 0, none⟩))) w (pk K) fun t119 w =>
 DoX Tryd.prog (mBin .gtr 3 t5 t119) w (pk K) fun t120 w =>
 GDo t120 true (fun E => E t98 w) w fun t122 w =>
 GDo t120 true (fun E => E t96 w) w fun t123 w =>
 GDo t120 true (fun E => DoX Tryd.prog (mBin .shr 3 t123 (.int .u64 4)) w (pk K) E) w fun t124 w =>
 GDo t120 true (fun E => DoX Tryd.prog (mBin .add 3 (.int .i64 4) t124) w (pk K) E) w fun t125 w =>
 GDo t120 true (fun E => DoX Tryd.prog (mBin .geq 3 t122 t125) w (pk K) E) w fun t126 w =>
 DoX Tryd.prog (mPick t120 t126 (.bool false)) w (pk K) fun t127 w =>
 GDo t127 true (fun E => E t96 w) w fun t129 w =>
 GDo t127 true (fun E => E t9 w) w fun t130 w =>
 GDo t127 true (fun E => DoX Tryd.prog (mBin .lss 3 t129 t130) w (pk K) E) w fun t131 w =>
 DoX Tryd.prog (mPick t127 t131 (.bool false)) w (pk K) fun t132 w =>
 IfX t132 (DoX Tryd.prog (mSlice 9 t0 (some t96) none none) w (pk K) fun t135 w =>
 CallX Tryd.prog 196 #[t135, t1] w (pk K) fun t137 w =>
 DoX Tryd.prog (mBin .lss 3 t137 (.int .i64 0)) w (pk K) fun t139 w =>
 IfX t139 (K (.returned (.int .i64 (-1))) w) (DoX Tryd.prog (mBin .add 3 t96 t137) w (pk K) fun t142 w =>
 K (.returned t142) w)) (N1 [t96, t98] w)))
def S_internal_stringslite_Index_0 (t0 t1 t5 t6 t7 t8 t9 t10 : Value) (w : World) (N1 : List Value → World → Prop) (K : Ending → World → Prop) : Prop :=
 DoX Tryd.prog (mBin .lss 3 t8 t9) w (pk K) fun t59 w =>
 IfX t59 (JoinX (fun J2 =>
 DoX Tryd.prog (mIx 9 t0 t8) w (pk K) fun t62 w =>
 DoX Tryd.prog (mEq .neq 5 (.tmp 62) (.tmp 63) t62 t6) w (pk K) fun t64 w =>
 IfX t64 (DoX Tryd.prog (mBin .add 3 t8 (.int .i64 1)) w (pk K) fun t67 w =>
 DoX Tryd.prog (mSlice 9 t0 (some t67) (some t9) none) w (pk K) fun t69 w =>
 CallX Tryd.prog 133 #[t69, t6] w (pk K) fun t71 w =>
 DoX Tryd.prog (mBin .lss 3 t71 (.int .i64 0)) w (pk K) fun t73 w =>
 IfX t73 (K (.returned (.int .i64 (-1))) w) (DoX Tryd.prog (mBin .add 3 t71 (.int .i64 1)) w (pk K) fun t76 w =>
 DoX Tryd.prog (mBin .add 3 t8 t76) w (pk K) fun t77 w =>
 J2 [t77] w)) (J2 [t8] w)) (fun vs2 w => ∀ _ : Sg, S_internal_stringslite_Index_1 t0 t1 t5 t7 (vs2.getD 0 undef) t9 t10 w N1 K)) (K (.returned (.int .i64 (-1))) w)
def S_internal_stringslite_Index (t0 t1 : Value) (w : World) (K : Ending → World → Prop) : Prop :=
 DoX Tryd.prog (mB .len #[9] 3 #[false] #[t1]) w (pk K) fun t15 w =>
 DoX Tryd.prog (mEq .eql 3 (.tmp 17) (.const (.int .i64 0)) t15 (.int .i64 0)) w (pk K) fun t18 w =>
 GDo t18 false (fun E => E t1 w) w fun t20 w =>
 GDo t18 false (fun E => E t0 w) w fun t21 w =>
 GDo t18 false (fun E => DoX Tryd.prog (mEq .eql 9 (.tmp 20) (.tmp 21) t20 t21) w (pk K) E) w fun t22 w =>
 DoX Tryd.prog (mPick t18 (.bool true) t22) w (pk K) fun t23 w =>
 IfX t23 (K (.returned (.int .i64 0)) w) (DoX Tryd.prog (mEq .eql 3 (.tmp 25) (.const (.int .i64 1)) t15 (.int .i64 1)) w (pk K) fun t26 w =>
 IfX t26 (DoX Tryd.prog (mIx 9 t1 (.int .i64 0)) w (pk K) fun t29 w =>
 CallX Tryd.prog 133 #[t0, t29] w (pk K) fun t30 w =>
 K (.returned t30) w) (DoX Tryd.prog (mB .len #[9] 3 #[false] #[t0]) w (pk K) fun t34 w =>
 DoX Tryd.prog (mBin .geq 3 t15 t34) w (pk K) fun t35 w =>
 IfX t35 (K (.returned (.int .i64 (-1))) w) (DoX Tryd.prog (mLoad 3 (.pointer (some ⟨0, 0, none⟩))) w (pk K) fun t38 w =>
 DoX Tryd.prog (mBin .leq 3 t15 t38) w (pk K) fun t39 w =>
 GDo t39 true (fun E => E t0 w) w fun t41 w =>
 GDo t39 true (fun E => DoX Tryd.prog (mB .len #[9] 3 #[false] #[t41]) w (pk K) E) w fun t42 w =>
 GDo t39 true (fun E => DoX Tryd.prog (mBin .leq 3 t42 (.int .i64 64)) w (pk K) E) w fun t43 w =>
 DoX Tryd.prog (mPick t39 t43 (.bool false)) w (pk K) fun t44 w =>
 IfX t44 (DoX Tryd.prog (mCallV (.func (.func 194) #[] #[]) #[t0, t1]) w (pk K) fun t47 w =>
 K (.returned t47) w) (DoX Tryd.prog (mIx 9 t1 (.int .i64 0)) w (pk K) fun t49 w =>
 DoX Tryd.prog (mIx 9 t1 (.int .i64 1)) w (pk K) fun t51 w =>
 DoX Tryd.prog (mB .len #[9] 3 #[false] #[t0]) w (pk K) fun t53 w =>
 DoX Tryd.prog (mBin .sub 3 t53 t15) w (pk K) fun t55 w =>
 DoX Tryd.prog (mBin .add 3 t55 (.int .i64 1)) w (pk K) fun t56 w =>
 LoopX [(.int .i64 0), (.int .i64 0)] w (fun vs1 w N1 => ∀ _ : Sg, S_internal_stringslite_Index_0 t0 t1 t15 t49 t51 (vs1.getD 0 undef) t56 (vs1.getD 1 undef) w N1 K)))))
theorem S_internal_stringslite_Index_eq (t0 t1 : Value) (w : World) (K : Ending → World → Prop) : wpX Tryd.prog 143 [(21, [8])] [(15, [8, 10])] (bodyOf Tryd.f161) (topQ Tryd.prog [.tmp 4] K) (startX [t0, t1]) [] w = S_internal_stringslite_Index t0 t1 w K := by kernel_rfl
theorem S_internal_stringslite_Index_ok {t0 t1 : Value} {w : World} {K : Ending → World → Prop} (h : S_internal_stringslite_Index t0 t1 w K) : Calls Tryd.prog 161 #[t0, t1] w K :=
  calls_of_wpX Tryd.func161 rfl rfl rfl rfl (Eq.mpr (S_internal_stringslite_Index_eq t0 t1 w K) h)

/- strings.TrimRight -/
def S_strings_TrimRight (t0 t1 : Value) (w : World) (K : Ending → World → Prop) : Prop :=
 DoX Tryd.prog (mEq .eql 9 (.tmp 7) (.const (.string ⟨#[]⟩)) t0 (.string ⟨#[]⟩)) w (pk K) fun t8 w =>
 GDo t8 false (fun E => E t1 w) w fun t10 w =>
 GDo t8 false (fun E => DoX Tryd.prog (mEq .eql 9 (.tmp 10) (.const (.string ⟨#[]⟩)) t10 (.string ⟨#[]⟩)) w (pk K) E) w fun t11 w =>
 DoX Tryd.prog (mPick t8 (.bool true) t11) w (pk K) fun t12 w =>
 IfX t12 (K (.returned t0) w) (DoX Tryd.prog (mB .len #[9] 3 #[false] #[t1]) w (pk K) fun t15 w =>
 DoX Tryd.prog (mEq .eql 3 (.tmp 15) (.const (.int .i64 1)) t15 (.int .i64 1)) w (pk K) fun t16 w =>
 GDo t16 true (fun E => E t1 w) w fun t18 w =>
 GDo t16 true (fun E => DoX Tryd.prog (mIx 9 t18 (.int .i64 0)) w (pk K) E) w fun t19 w =>
 GDo t16 true (fun E => DoX Tryd.prog (mBin .lss 5 t19 (.int .u8 128)) w (pk K) E) w fun t20 w =>
 DoX Tryd.prog (mPick t16 t20 (.bool false)) w (pk K) fun t21 w =>
 IfX t21 (DoX Tryd.prog (mIx 9 t1 (.int .i64 0)) w (pk K) fun t24 w =>
 CallX Tryd.prog 126 #[t0, t24] w (pk K) fun t25 w =>
 K (.returned t25) w) (CallX Tryd.prog 127 #[t1] w (pk K) fun t28 w =>
 DoX Tryd.prog (mExt t28 0) w (pk K) fun t29 w =>
 DoX Tryd.prog (mExt t28 1) w (pk K) fun t30 w =>
 DoX Tryd.prog (mAlloc 125) w (pk K) fun t5 w =>
 DoX Tryd.prog (mStore 125 t5 t29) w (pk K) fun _ w =>
 IfX t30 (CallX Tryd.prog 128 #[t0, t5] w (pk K) fun t33 w =>
 K (.returned t33) w) (CallX Tryd.prog 129 #[t0, t1] w (pk K) fun t36 w =>
 K (.returned t36) w)))
theorem S_strings_TrimRight_eq (t0 t1 : Value) (w : World) (K : Ending → World → Prop) : wpX Tryd.prog 37 [] [] (bodyOf Tryd.f69) (topQ Tryd.prog [.tmp 4] K) (startX [t0, t1]) [] w = S_strings_TrimRight t0 t1 w K := by kernel_rfl
theorem S_strings_TrimRight_ok {t0 t1 : Value} {w : World} {K : Ending → World → Prop} (h : S_strings_TrimRight t0 t1 w K) : Calls Tryd.prog 69 #[t0, t1] w K :=
  calls_of_wpX Tryd.func69 rfl rfl rfl rfl (Eq.mpr (S_strings_TrimRight_eq t0 t1 w K) h)

/- strings.trimRightByte -/
def S_strings_trimRightByte_0 (t0 t1 : Value) (w : World) (N1 : List Value → World → Prop) (K : Ending → World → Prop) : Prop :=
 DoX Tryd.prog (mB .len #[9] 3 #[false] #[t0]) w (pk K) fun t6 w =>
 DoX Tryd.prog (mBin .gtr 3 t6 (.int .i64 0)) w (pk K) fun t7 w =>
 GDo t7 true (fun E => E t0 w) w fun t9 w =>
 GDo t7 true (fun E => E t0 w) w fun t10 w =>
 GDo t7 true (fun E => DoX Tryd.prog (mB .len #[9] 3 #[false] #[t10]) w (pk K) E) w fun t11 w =>
 GDo t7 true (fun E => DoX Tryd.prog (mBin .sub 3 t11 (.int .i64 1)) w (pk K) E) w fun t12 w =>
 GDo t7 true (fun E => DoX Tryd.prog (mIx 9 t9 t12) w (pk K) E) w fun t13 w =>
 GDo t7 true (fun E => E t1 w) w fun t14 w =>
 GDo t7 true (fun E => DoX Tryd.prog (mEq .eql 5 (.tmp 13) (.tmp 14) t13 t14) w (pk K) E) w fun t15 w =>
 DoX Tryd.prog (mPick t7 t15 (.bool false)) w (pk K) fun t16 w =>
 IfX t16 (DoX Tryd.prog (mB .len #[9] 3 #[false] #[t0]) w (pk K) fun t19 w =>
 DoX Tryd.prog (mBin .sub 3 t19 (.int .i64 1)) w (pk K) fun t20 w =>
 DoX Tryd.prog (mSlice 9 t0 none (some t20) none) w (pk K) fun t21 w =>
 N1 [t21] w) (K (.returned t0) w)
def S_strings_trimRightByte (t0 t1 : Value) (w : World) (K : Ending → World → Prop) : Prop :=
 LoopX [t0] w (fun vs1 w N1 => ∀ _ : Sg, S_strings_trimRightByte_0 (vs1.getD 0 undef) t1 w N1 K)
theorem S_strings_trimRightByte_eq (t0 t1 : Value) (w : World) (K : Ending → World → Prop) : wpX Tryd.prog 23 [] [(1, [0])] (bodyOf Tryd.f126) (topQ Tryd.prog [.tmp 4] K) (startX [t0, t1]) [] w = S_strings_trimRightByte t0 t1 w K := by kernel_rfl
theorem S_strings_trimRightByte_ok {t0 t1 : Value} {w : World} {K : Ending → World → Prop} (h : S_strings_trimRightByte t0 t1 w K) : Calls Tryd.prog 126 #[t0, t1] w K :=
  calls_of_wpX Tryd.func126 rfl rfl rfl rfl (Eq.mpr (S_strings_trimRightByte_eq t0 t1 w K) h)

/- strings.Trim -/
def S_strings_Trim (t0 t1 : Value) (w : World) (K : Ending → World → Prop) : Prop :=
 DoX Tryd.prog (mEq .eql 9 (.tmp 7) (.const (.string ⟨#[]⟩)) t0 (.string ⟨#[]⟩)) w (pk K) fun t8 w =>
 GDo t8 false (fun E => E t1 w) w fun t10 w =>
 GDo t8 false (fun E => DoX Tryd.prog (mEq .eql 9 (.tmp 10) (.const (.string ⟨#[]⟩)) t10 (.string ⟨#[]⟩)) w (pk K) E) w fun t11 w =>
 DoX Tryd.prog (mPick t8 (.bool true) t11) w (pk K) fun t12 w =>
 IfX t12 (K (.returned t0) w) (DoX Tryd.prog (mB .len #[9] 3 #[false] #[t1]) w (pk K) fun t15 w =>
 DoX Tryd.prog (mEq .eql 3 (.tmp 15) (.const (.int .i64 1)) t15 (.int .i64 1)) w (pk K) fun t16 w =>
 GDo t16 true (fun E => E t1 w) w fun t18 w =>
 GDo t16 true (fun E => DoX Tryd.prog (mIx 9 t18 (.int .i64 0)) w (pk K) E) w fun t19 w =>
 GDo t16 true (fun E => DoX Tryd.prog (mBin .lss 5 t19 (.int .u8 128)) w (pk K) E) w fun t20 w =>
 DoX Tryd.prog (mPick t16 t20 (.bool false)) w (pk K) fun t21 w =>
 IfX t21 (QuietX w (fun C1 =>
 QDo Tryd.prog C1 (mIx 9 t1 (.int .i64 0)) fun t24 =>
 QCall Tryd.prog C1 126 #[t0, t24] fun t25 =>
 QDo Tryd.prog C1 (mIx 9 t1 (.int .i64 0)) fun t27 =>
 QCall Tryd.prog C1 162 #[t25, t27] fun t28 =>
 ∀ w, C1 w →
 K (.returned t28) w)) (CallX Tryd.prog 127 #[t1] w (pk K) fun t31 w =>
 DoX Tryd.prog (mExt t31 0) w (pk K) fun t32 w =>
 DoX Tryd.prog (mExt t31 1) w (pk K) fun t33 w =>
 DoX Tryd.prog (mAlloc 125) w (pk K) fun t5 w =>
 DoX Tryd.prog (mStore 125 t5 t32) w (pk K) fun _ w =>
 IfX t33 (CallX Tryd.prog 128 #[t0, t5] w (pk K) fun t36 w =>
 CallX Tryd.prog 163 #[t36, t5] w (pk K) fun t37 w =>
 K (.returned t37) w) (CallX Tryd.prog 129 #[t0, t1] w (pk K) fun t40 w =>
 CallX Tryd.prog 164 #[t40, t1] w (pk K) fun t42 w =>
 K (.returned t42) w)))
theorem S_strings_Trim_eq (t0 t1 : Value) (w : World) (K : Ending → World → Prop) : wpX Tryd.prog 43 [] [] (bodyOf Tryd.f125) (topQ Tryd.prog [.tmp 4] K) (startX [t0, t1]) [] w = S_strings_Trim t0 t1 w K := by kernel_rfl
theorem S_strings_Trim_ok {t0 t1 : Value} {w : World} {K : Ending → World → Prop} (h : S_strings_Trim t0 t1 w K) : Calls Tryd.prog 125 #[t0, t1] w K :=
  calls_of_wpX Tryd.func125 rfl rfl rfl rfl (Eq.mpr (S_strings_Trim_eq t0 t1 w K) h)

/- strings.makeASCIISet -/
def S_strings_makeASCIISet_0 (t0 t2 t3 t4 : Value) (w : World) (N1 : List Value → World → Prop) (K : Ending → World → Prop) : Prop :=
 DoX Tryd.prog (mB .len #[9] 3 #[false] #[t0]) w (pk K) fun t8 w =>
 DoX Tryd.prog (mBin .lss 3 t4 t8) w (pk K) fun t9 w =>
 IfX t9 (DoX Tryd.prog (mIx 9 t0 t4) w (pk K) fun t14 w =>
 DoX Tryd.prog (mBin .geq 5 t14 (.int .u8 128)) w (pk K) fun t16 w =>
 IfX t16 (DoX Tryd.prog (mLoad 125 t2) w (pk K) fun t17 w =>
 DoX Tryd.prog (mStore 125 t2 t17) w (pk K) fun _ w =>
 RetX Tryd.prog [.cell t2 125, .val (.bool false)] w K) (DoX Tryd.prog (mIA 125 t2 t14) w (pk K) fun t19 w =>
 DoX Tryd.prog (mStore 4 t19 (.bool true)) w (pk K) fun _ w =>
 DoX Tryd.prog (mBin .add 3 t4 (.int .i64 1)) w (pk K) fun t11 w =>
 N1 [t3, t11] w)) (DoX Tryd.prog (mLoad 125 t2) w (pk K) fun t20 w =>
 DoX Tryd.prog (mStore 125 t2 t20) w (pk K) fun _ w =>
 RetX Tryd.prog [.cell t2 125, .val (.bool true)] w K)
def S_strings_makeASCIISet (t0 : Value) (w : World) (K : Ending → World → Prop) : Prop :=
 DoX Tryd.prog (mAlloc 125) w (pk K) fun t2 w =>
 LoopX [(.bool false), (.int .i64 0)] w (fun vs1 w N1 => ∀ _ : Sg, S_strings_makeASCIISet_0 t0 t2 (vs1.getD 0 undef) (vs1.getD 1 undef) w N1 K)
theorem S_strings_makeASCIISet_eq (t0 : Value) (w : World) (K : Ending → World → Prop) : wpX Tryd.prog 21 [] [(2, [3, 4])] (bodyOf Tryd.f127) (topQ Tryd.prog [.cell 2 125, .tmp 3] K) (startX [t0]) [] w = S_strings_makeASCIISet t0 w K := by kernel_rfl
theorem S_strings_makeASCIISet_ok {t0 : Value} {w : World} {K : Ending → World → Prop} (h : S_strings_makeASCIISet t0 w K) : Calls Tryd.prog 127 #[t0] w K :=
  calls_of_wpX Tryd.func127 rfl rfl rfl rfl (Eq.mpr (S_strings_makeASCIISet_eq t0 w K) h)

/- strings.trimRightASCII -/
def S_strings_trimRightASCII_1 (t0 : Value) (w : World) (K : Ending → World → Prop) : Prop :=
 K (.returned t0) w
def S_strings_trimRightASCII_0 (t0 t1 : Value) (w : World) (J1 N2 : List Value → World → Prop) (K : Ending → World → Prop) : Prop :=
 DoX Tryd.prog (mB .len #[9] 3 #[false] #[t0]) w (pk K) fun t6 w =>
 DoX Tryd.prog (mBin .gtr 3 t6 (.int .i64 0)) w (pk K) fun t7 w =>
 IfX t7 (DoX Tryd.prog (mB .len #[9] 3 #[false] #[t0]) w (pk K) fun t11 w =>
 DoX Tryd.prog (mBin .sub 3 t11 (.int .i64 1)) w (pk K) fun t12 w =>
 DoX Tryd.prog (mIx 9 t0 t12) w (pk K) fun t13 w =>
 CallX Tryd.prog 165 #[t1, t13] w (pk K) fun t14 w =>
 DoX Tryd.prog (mUn .not t14) w (pk K) fun t15 w =>
 IfX t15 (J1 [t0] w) (DoX Tryd.prog (mB .len #[9] 3 #[false] #[t0]) w (pk K) fun t18 w =>
 DoX Tryd.prog (mBin .sub 3 t18 (.int .i64 1)) w (pk K) fun t19 w =>
 DoX Tryd.prog (mSlice 9 t0 none (some t19) none) w (pk K) fun t20 w =>
 N2 [t20] w)) (J1 [t0] w)
def S_strings_trimRightASCII (t0 t1 : Value) (w : World) (K : Ending → World → Prop) : Prop :=
 JoinX (fun J1 =>
 LoopX [t0] w (fun vs2 w N2 => ∀ _ : Sg, S_strings_trimRightASCII_0 (vs2.getD 0 undef) t1 w J1 N2 K)) (fun vs1 w => ∀ _ : Sg, S_strings_trimRightASCII_1 (vs1.getD 0 undef) w K)
theorem S_strings_trimRightASCII_eq (t0 t1 : Value) (w : World) (K : Ending → World → Prop) : wpX Tryd.prog 22 [(4, [0])] [(1, [0])] (bodyOf Tryd.f128) (topQ Tryd.prog [.tmp 4] K) (startX [t0, t1]) [] w = S_strings_trimRightASCII t0 t1 w K := by kernel_rfl
theorem S_strings_trimRightASCII_ok {t0 t1 : Value} {w : World} {K : Ending → World → Prop} (h : S_strings_trimRightASCII t0 t1 w K) : Calls Tryd.prog 128 #[t0, t1] w K :=
  calls_of_wpX Tryd.func128 rfl rfl rfl rfl (Eq.mpr (S_strings_trimRightASCII_eq t0 t1 w K) h)

/- strings.trimLeftASCII -/
def S_strings_trimLeftASCII_1 (t0 : Value) (w : World) (K : Ending → World → Prop) : Prop :=
 K (.returned t0) w
def S_strings_trimLeftASCII_0 (t0 t1 : Value) (w : World) (J1 N2 : List Value → World → Prop) (K : Ending → World → Prop) : Prop :=
 DoX Tryd.prog (mB .len #[9] 3 #[false] #[t0]) w (pk K) fun t6 w =>
 DoX Tryd.prog (mBin .gtr 3 t6 (.int .i64 0)) w (pk K) fun t7 w =>
 IfX t7 (DoX Tryd.prog (mIx 9 t0 (.int .i64 0)) w (pk K) fun t10 w =>
 CallX Tryd.prog 165 #[t1, t10] w (pk K) fun t11 w =>
 DoX Tryd.prog (mUn .not t11) w (pk K) fun t12 w =>
 IfX t12 (J1 [t0] w) (DoX Tryd.prog (mSlice 9 t0 (some (.int .i64 1)) none none) w (pk K) fun t14 w =>
 N2 [t14] w)) (J1 [t0] w)
def S_strings_trimLeftASCII (t0 t1 : Value) (w : World) (K : Ending → World → Prop) : Prop :=
 JoinX (fun J1 =>
 LoopX [t0] w (fun vs2 w N2 => ∀ _ : Sg, S_strings_trimLeftASCII_0 (vs2.getD 0 undef) t1 w J1 N2 K)) (fun vs1 w => ∀ _ : Sg, S_strings_trimLeftASCII_1 (vs1.getD 0 undef) w K)
theorem S_strings_trimLeftASCII_eq (t0 t1 : Value) (w : World) (K : Ending → World → Prop) : wpX Tryd.prog 16 [(4, [0])] [(1, [0])] (bodyOf Tryd.f163) (topQ Tryd.prog [.tmp 4] K) (startX [t0, t1]) [] w = S_strings_trimLeftASCII t0 t1 w K := by kernel_rfl
theorem S_strings_trimLeftASCII_ok {t0 t1 : Value} {w : World} {K : Ending → World → Prop} (h : S_strings_trimLeftASCII t0 t1 w K) : Calls Tryd.prog 163 #[t0, t1] w K :=
  calls_of_wpX Tryd.func163 rfl rfl rfl rfl (Eq.mpr (S_strings_trimLeftASCII_eq t0 t1 w K) h)

/- (*strings.asciiSet).contains -/
def S_strings_asciiSet_contains (t0 t1 : Value) (w : World) (K : Ending → World → Prop) : Prop :=
 DoX Tryd.prog (mNil t0) w (pk K) fun t7 w =>
 DoX Tryd.prog (mIA 125 t7 t1) w (pk K) fun t8 w =>
 DoX Tryd.prog (mLoad 4 t8) w (pk K) fun t9 w =>
 K (.returned t9) w
theorem S_strings_asciiSet_contains_eq (t0 t1 : Value) (w : World) (K : Ending → World → Prop) : wpX Tryd.prog 10 [] [] (bodyOf Tryd.f165) (topQ Tryd.prog [.tmp 4] K) (startX [t0, t1]) [] w = S_strings_asciiSet_contains t0 t1 w K := by kernel_rfl
theorem S_strings_asciiSet_contains_ok {t0 t1 : Value} {w : World} {K : Ending → World → Prop} (h : S_strings_asciiSet_contains t0 t1 w K) : Calls Tryd.prog 165 #[t0, t1] w K :=
  calls_of_wpX Tryd.func165 rfl rfl rfl rfl (Eq.mpr (S_strings_asciiSet_contains_eq t0 t1 w K) h)

end Go.Proofs.YtfnpfbgnhncgpaaDoor
