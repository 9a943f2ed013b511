/- Texts that go together: SRef06 SParse PsA MkD MkE MkF EngZ MkG Plain19 DcA SDocs SRef19 DcB DcC SSlcI SlcI DcD DcE DcF Plain19B DcG EngAC PsB PsC Plain07B Plain38 SLabel SRef38 SCut LbA LbB LbC LbD LbE DcH STexts OcTx SSame SApart Plain07C ObS0 ObT DcI LbF Plain38B Plain38C Plain38D Plain38E Plain06B Plain06C Plain06D Plain06E PsD PsE PsF SMake6 PsG PsH PsI PsJ Plain06F EngAA. -/
import Derived.Test.YtoofficgclghoaaGreatDoorRows
import Derived.Lib.Overlaps
import Derived.Laws.Externs
import Derived.Lib.Repeat
import Derived.Lib.Case
import Derived.Maps.RangeRun
import Derived.Test.YtoofficgclghoaaGreatDoorMlengaipi
import Derived.Test.YtoofficgclghoaaGreatDoorMdldongdl
import Derived.Test.YtoofficgclghoaaGreatDoorMjoallmgc
import Derived.Test.YtoofficgclghoaaGreatDoorMjjgpfbaj
set_option linter.defProp false
set_option linter.unusedSimpArgs false
set_option linter.unusedVariables false
set_option maxRecDepth 20000
open Go.Proofs.Tryz (prog)
namespace Go.Proofs.YtoofficgclghoaaGreatDoor
section
open Eng
def eQ (t0:Value)(w:World)(K:Ending→World→Prop):Prop:=
 DoX prog (mBox 53 t0) w (pk K) fun t1 w=>
 DoX prog (mFA 53 t1 0) w (pk K) fun t3 w=>
 DoX prog (aB 3 t3) w (pk K) fun t4 w=>
 DoX prog (mEq .eql 3 (.tmp 4) (.const (.int .i64 6)) t4 (.int .i64 6)) w (pk K) fun t5 w=>
 IfX t5 (DoX prog (mFA 53 t1 4) w (pk K) fun t6 w=>
 DoX prog (aB 9 t6) w (pk K) fun t7 w=>
 DoX prog (mEq .eql 9 (.tmp 7) (.const (.string ⟨#[91]⟩)) t7 (.string ⟨#[91]⟩)) w (pk K) fun t8 w=>
 GDo t8 false (fun E=>DoX prog (mFA 53 t1 4) w (pk K) E) w fun t10 w=>
 GDo t8 false (fun E=>DoX prog (aB 9 t10) w (pk K) E) w fun t11 w=>
 GDo t8 false (fun E=>DoX prog (mEq .eql 9 (.tmp 11) (.const (.string ⟨#[60,60]⟩)) t11 (.string ⟨#[60,60]⟩)) w (pk K) E) w fun t12 w=>
 DoX prog (aL t8 (.bool true) t12) w (pk K) fun t13 w=>
 K (.returned t13) w) (DoX prog (mFA 53 t1 0) w (pk K) fun t14 w=>
 DoX prog (aB 3 t14) w (pk K) fun t15 w=>
 DoX prog (mEq .neq 3 (.tmp 15) (.const (.int .i64 0)) t15 (.int .i64 0)) w (pk K) fun t16 w=>
 GDo t16 true (fun E=>DoX prog (mFA 53 t1 0) w (pk K) E) w fun t18 w=>
 GDo t16 true (fun E=>DoX prog (aB 3 t18) w (pk K) E) w fun t19 w=>
 GDo t16 true (fun E=>DoX prog (mEq .neq 3 (.tmp 19) (.const (.int .i64 5)) t19 (.int .i64 5)) w (pk K) E) w fun t20 w=>
 GDo t16 true (fun E=>E t20 w) w fun t21 w=>
 GDo t21 false (fun E=>DoX prog (mFA 53 t1 4) w (pk K) E) w fun t22 w=>
 GDo t21 false (fun E=>DoX prog (aB 9 t22) w (pk K) E) w fun t23 w=>
 GDo t21 false (fun E=>DoX prog (mEq .eql 9 (.tmp 23) (.const (.string ⟨#[116,114,117,101]⟩)) t23 (.string ⟨#[116,114,117,101]⟩)) w (pk K) E) w fun t24 w=>
 GDo t16 true (fun E=>DoX prog (aL t21 (.bool true) t24) w (pk K) E) w fun t25 w=>
 GDo t16 true (fun E=>E t25 w) w fun t26 w=>
 GDo t26 false (fun E=>DoX prog (mFA 53 t1 4) w (pk K) E) w fun t27 w=>
 GDo t26 false (fun E=>DoX prog (aB 9 t27) w (pk K) E) w fun t28 w=>
 GDo t26 false (fun E=>DoX prog (mEq .eql 9 (.tmp 28) (.const (.string ⟨#[102,97,108,115,101]⟩)) t28 (.string ⟨#[102,97,108,115,101]⟩)) w (pk K) E) w fun t29 w=>
 GDo t16 true (fun E=>DoX prog (aL t26 (.bool true) t29) w (pk K) E) w fun t30 w=>
 GDo t16 true (fun E=>E t30 w) w fun t31 w=>
 GDo t31 false (fun E=>DoX prog (mFA 53 t1 4) w (pk K) E) w fun t32 w=>
 GDo t31 false (fun E=>DoX prog (aB 9 t32) w (pk K) E) w fun t33 w=>
 GDo t31 false (fun E=>DoX prog (mEq .eql 9 (.tmp 33) (.const (.string ⟨#[110,117,108,108]⟩)) t33 (.string ⟨#[110,117,108,108]⟩)) w (pk K) E) w fun t34 w=>
 GDo t16 true (fun E=>DoX prog (aL t31 (.bool true) t34) w (pk K) E) w fun t35 w=>
 DoX prog (aL t16 t35 (.bool false)) w (pk K) fun t36 w=>
 K (.returned t36) w)
theorem rU (t0:Value)(w:World)(K:Ending→World→Prop):wpX prog 37 [] [] none (aK Tryz.f72) (topQ prog [.tmp 2] K) (aJ [t0]) [] w=eQ t0 w K:=by kernel_rfl
theorem rM {t0:Value}{w:World}{K:Ending→World→Prop}(h:eQ t0 w K):Calls prog 72 #[t0] w K:=
 aA Tryz.func72 rfl rfl rfl rfl (Eq.mpr (rU t0 w K) h)
def jC (t0 t1:Value)(w:World)(K:Ending→World→Prop):Prop:=
 DoX prog (mBox 53 t1) w (pk K) fun t3 w=>
 DoX prog (mFA 53 t3 3) w (pk K) fun t10 w=>
 DoX prog (aB 2 t10) w (pk K) fun t11 w=>
 DoX prog (mBin .lss 2 t11 (.int .i64 1)) w (pk K) fun t12 w=>
 GDo t12 false (fun E=>DoX prog (mFA 53 t3 3) w (pk K) E) w fun t14 w=>
 GDo t12 false (fun E=>DoX prog (aB 2 t14) w (pk K) E) w fun t15 w=>
 GDo t12 false (fun E=>DoX prog (mBin .gtr 2 t15 (.int .i64 8191)) w (pk K) E) w fun t16 w=>
 DoX prog (aL t12 (.bool true) t16) w (pk K) fun t17 w=>
 IfX t17 (K (.returned (.tuple #[(.int .i64 0),(.int .i64 0),(.bool false)])) w) (DoX prog (mFA 53 t3 2) w (pk K) fun t20 w=>
 DoX prog (aB 3 t20) w (pk K) fun t21 w=>
 CallX prog 18 #[t0,t21] w (pk K) fun t22 w=>
 DoX prog (mExt t22 0) w (pk K) fun t23 w=>
 DoX prog (mExt t22 1) w (pk K) fun t24 w=>
 DoX prog (aN 53) w (pk K) fun t7 w=>
 DoX prog (aD 53 t7 t23) w (pk K) fun _ w=>
 DoX prog (mEq .neq 24 (.tmp 25) (.const (.int .i64 0)) t24 (.int .i64 0)) w (pk K) fun t26 w=>
 GDo t26 false (fun E=>DoX prog (mFA 53 t7 0) w (pk K) E) w fun t28 w=>
 GDo t26 false (fun E=>DoX prog (aB 3 t28) w (pk K) E) w fun t29 w=>
 GDo t26 false (fun E=>DoX prog (mEq .neq 3 (.tmp 29) (.const (.int .i64 1)) t29 (.int .i64 1)) w (pk K) E) w fun t30 w=>
 DoX prog (aL t26 (.bool true) t30) w (pk K) fun t31 w=>
 GDo t31 false (fun E=>DoX prog (mFA 53 t7 3) w (pk K) E) w fun t33 w=>
 GDo t31 false (fun E=>DoX prog (aB 2 t33) w (pk K) E) w fun t34 w=>
 GDo t31 false (fun E=>DoX prog (mBin .lss 2 t34 (.int .i64 0)) w (pk K) E) w fun t35 w=>
 DoX prog (aL t31 (.bool true) t35) w (pk K) fun t36 w=>
 GDo t36 false (fun E=>DoX prog (mFA 53 t7 3) w (pk K) E) w fun t38 w=>
 GDo t36 false (fun E=>DoX prog (aB 2 t38) w (pk K) E) w fun t39 w=>
 GDo t36 false (fun E=>DoX prog (mBin .gtr 2 t39 (.int .i64 65535)) w (pk K) E) w fun t40 w=>
 DoX prog (aL t36 (.bool true) t40) w (pk K) fun t41 w=>
 IfX t41 (K (.returned (.tuple #[(.int .i64 0),(.int .i64 0),(.bool false)])) w) (DoX prog (mFA 53 t7 2) w (pk K) fun t44 w=>
 DoX prog (aB 3 t44) w (pk K) fun t45 w=>
 CallX prog 18 #[t0,t45] w (pk K) fun t46 w=>
 DoX prog (mExt t46 0) w (pk K) fun t47 w=>
 DoX prog (mExt t46 1) w (pk K) fun t48 w=>
 DoX prog (aN 53) w (pk K) fun t9 w=>
 DoX prog (aD 53 t9 t47) w (pk K) fun _ w=>
 QuietX w (fun C1=>
 QDo prog C1 (mFA 53 t7 3) fun t49=>
 QDo prog C1 (aB 2 t49) fun t50=>
 QDo prog C1 (mFA 53 t9 2) fun t51=>
 QDo prog C1 (aB 3 t51) fun t52=>
 QDo prog C1 (mEq .eql 24 (.tmp 53) (.const (.int .i64 0)) t48 (.int .i64 0)) fun t54=>
 GQ t54 true (fun E=>QDo prog C1 (mFA 53 t9 0) E) fun t56=>
 GQ t54 true (fun E=>QDo prog C1 (aB 3 t56) E) fun t57=>
 GQ t54 true (fun E=>QDo prog C1 (mEq .eql 3 (.tmp 57) (.const (.int .i64 5)) t57 (.int .i64 5)) E) fun t58=>
 QDo prog C1 (aL t54 t58 (.bool false)) fun t59=>
 GQ t59 true (fun E=>QDo prog C1 (mFA 53 t9 4) E) fun t61=>
 GQ t59 true (fun E=>QDo prog C1 (aB 9 t61) E) fun t62=>
 GQ t59 true (fun E=>QDo prog C1 (mEq .eql 9 (.tmp 62) (.const (.string ⟨#[82]⟩)) t62 (.string ⟨#[82]⟩)) E) fun t63=>
 QDo prog C1 (aL t59 t63 (.bool false)) fun t64=>
 ∀w,C1 w →
 K (.returned (.tuple #[t50,t52,t64])) w)))
theorem yJ (t0 t1:Value)(w:World)(K:Ending→World→Prop):wpX prog 65 [] [] none (aK Tryz.f73) (topQ prog [.tmp 4,.tmp 5,.tmp 6] K) (aJ [t0,t1]) [] w=jC t0 t1 w K:=by kernel_rfl
theorem xM {t0 t1:Value}{w:World}{K:Ending→World→Prop}(h:jC t0 t1 w K):Calls prog 73 #[t0,t1] w K:=
 aA Tryz.func73 rfl rfl rfl rfl (Eq.mpr (yJ t0 t1 w K) h)
def dC (t0 t1 t2 t6 t7 t8 t9 t11:Value)(w:World)(N1:List Value→World→Prop)(K:Ending→World→Prop):Prop:=
 DoX prog (mEq .neq 24 (.tmp 52) (.const (.int .i64 0)) t11 (.int .i64 0)) w (pk K) fun t53 w=>
 IfX t53 (DoX prog (aG 42 #[]) w (pk K) fun t54 w=>
 DoX prog (aD 42 t6 t54) w (pk K) fun _ w=>
 RetX prog [.cell t6 42,.val (.int .i64 0),.val t11] w K) (DoX prog (mBin .add 3 t2 (.int .i64 1)) w (pk K) fun t60 w=>
 CallX prog 47 #[t0,t1,t60] w (pk K) fun t61 w=>
 DoX prog (mExt t61 0) w (pk K) fun t62 w=>
 DoX prog (mExt t61 1) w (pk K) fun t63 w=>
 DoX prog (mExt t61 2) w (pk K) fun t64 w=>
 DoX prog (aN 42) w (pk K) fun t12 w=>
 DoX prog (aD 42 t12 t62) w (pk K) fun _ w=>
 DoX prog (mEq .neq 24 (.tmp 65) (.const (.int .i64 0)) t64 (.int .i64 0)) w (pk K) fun t66 w=>
 IfX t66 (DoX prog (aG 42 #[]) w (pk K) fun t67 w=>
 DoX prog (aD 42 t6 t67) w (pk K) fun _ w=>
 RetX prog [.cell t6 42,.val (.int .i64 0),.val t64] w K) (DoX prog (mFA 42 t9 5) w (pk K) fun t69 w=>
 DoX prog (aB 40 t69) w (pk K) fun t70 w=>
 DoX prog (aB 42 t12) w (pk K) fun t71 w=>
 DoX prog (aP 40 1 #[(0,t71)]) w (pk K) fun t72 w=>
 DoX prog (mB .append #[40,40] 40 #[false,false] #[t70,t72]) w (pk K) fun t73 w=>
 DoX prog (mFA 42 t9 5) w (pk K) fun t74 w=>
 DoX prog (aD 40 t74 t73) w (pk K) fun _ w=>
 N1 [t63,t7,t8] w))
def kF (t0 t1 t2 t6 t7 t8 t9:Value)(w:World)(N1:List Value→World→Prop)(K:Ending→World→Prop):Prop:=
 CallX prog 18 #[t0,t1] w (pk K) fun t18 w=>
 DoX prog (mExt t18 0) w (pk K) fun t19 w=>
 DoX prog (mExt t18 1) w (pk K) fun t20 w=>
 DoX prog (aN 53) w (pk K) fun t10 w=>
 DoX prog (aD 53 t10 t19) w (pk K) fun _ w=>
 DoX prog (mEq .eql 24 (.tmp 21) (.const (.int .i64 0)) t20 (.int .i64 0)) w (pk K) fun t22 w=>
 GDo t22 true (fun E=>DoX prog (mFA 53 t10 0) w (pk K) E) w fun t24 w=>
 GDo t22 true (fun E=>DoX prog (aB 3 t24) w (pk K) E) w fun t25 w=>
 GDo t22 true (fun E=>DoX prog (mEq .eql 3 (.tmp 25) (.const (.int .i64 6)) t25 (.int .i64 6)) w (pk K) E) w fun t26 w=>
 DoX prog (aL t22 t26 (.bool false)) w (pk K) fun t27 w=>
 GDo t27 true (fun E=>DoX prog (mFA 53 t10 4) w (pk K) E) w fun t29 w=>
 GDo t27 true (fun E=>DoX prog (aB 9 t29) w (pk K) E) w fun t30 w=>
 GDo t27 true (fun E=>DoX prog (mEq .eql 9 (.tmp 30) (.const (.string ⟨#[93]⟩)) t30 (.string ⟨#[93]⟩)) w (pk K) E) w fun t31 w=>
 DoX prog (aL t27 t31 (.bool false)) w (pk K) fun t32 w=>
 IfX t32 (HeldX w (fun S2 w=>
 HDo prog S2 (aB 42 t9) fun t33=>
 HDo prog (fun _=>True) (mFA 53 t10 2) fun t34=>
 HDo prog S2 (aB 3 t34) fun t35=>
 DoX prog (aD 42 t6 t33) w (pm1 (pm1 (pm1 (pm1 (pm1 (pk K)))))) fun _ w=>
 S2 w∧(RetX prog [.cell t6 42,.val t35,.val (.int .i64 0)] w K))) (JoinX (fun J3=>
 DoX prog (mEq .eql 24 (.tmp 36) (.const (.int .i64 0)) t20 (.int .i64 0)) w (pk K) fun t37 w=>
 GDo t37 true (fun E=>DoX prog (mFA 42 t9 5) w (pk K) E) w fun t39 w=>
 GDo t37 true (fun E=>DoX prog (aB 40 t39) w (pk K) E) w fun t40 w=>
 GDo t37 true (fun E=>DoX prog (mB .len #[40] 3 #[false] #[t40]) w (pk K) E) w fun t41 w=>
 GDo t37 true (fun E=>DoX prog (mEq .eql 3 (.tmp 41) (.const (.int .i64 8191)) t41 (.int .i64 8191)) w (pk K) E) w fun t42 w=>
 DoX prog (aL t37 t42 (.bool false)) w (pk K) fun t43 w=>
 GDo t43 true (fun E=>DoX prog (aB 53 t10) w (pk K) E) w fun t45 w=>
 GDo t43 true (fun E=>CallX prog 72 #[t45] w (pk K) E) w fun t46 w=>
 DoX prog (aL t43 t46 (.bool false)) w (pk K) fun t47 w=>
 GDo t47 true (fun E=>E t2 w) w fun t49 w=>
 GDo t47 true (fun E=>DoX prog (mBin .lss 3 t49 (.int .i64 24)) w (pk K) E) w fun t50 w=>
 DoX prog (aL t47 t50 (.bool false)) w (pk K) fun t51 w=>
 IfX t51 (J3 [(.int .i64 6)] w) (J3 [t20] w)) (fun vs3 w=>∀_:Sg,dC t0 t1 t2 t6 t7 t8 t9 (vs3.getD 0 undef) w N1 K))
def fJ (t0 t1 t2:Value)(w:World)(K:Ending→World→Prop):Prop:=
 DoX prog (aN 42) w (pk K) fun t6 w=>
 DoX prog (aG 42 #[(0,(.int .i64 6))]) w (pk K) fun t14 w=>
 DoX prog (aN 42) w (pk K) fun t9 w=>
 DoX prog (aD 42 t9 t14) w (pk K) fun _ w=>
 LoopX [t1,(.int .i64 0),(.int .i64 0)] w (fun vs1 w N1=>∀_:Sg,kF t0 (vs1.getD 0 undef) t2 t6 (vs1.getD 1 undef) (vs1.getD 2 undef) t9 w N1 K)
theorem uH (t0 t1 t2:Value)(w:World)(K:Ending→World→Prop):wpX prog 76 [(7,[11])] [(2,[1,7,8])] none (aK Tryz.f80) (topQ prog [.cell 6 42,.tmp 7,.tmp 8] K) (aJ [t0,t1,t2]) [] w=fJ t0 t1 t2 w K:=by kernel_rfl
theorem sV {t0 t1 t2:Value}{w:World}{K:Ending→World→Prop}(h:fJ t0 t1 t2 w K):Calls prog 80 #[t0,t1,t2] w K:=
 aA Tryz.func80 rfl rfl rfl rfl (Eq.mpr (uH t0 t1 t2 w K) h)
def nL (t1 t3 t5 t6 t7:Value)(w:World)(N1:List Value→World→Prop)(K:Ending→World→Prop):Prop:=
 DoX prog (mBin .gtr 3 t7 (.int .i64 0)) w (pk K) fun t24 w=>
 GDo t24 true (fun E=>DoX prog (mFA 42 t3 4) w (pk K) E) w fun t26 w=>
 GDo t24 true (fun E=>DoX prog (aB 39 t26) w (pk K) E) w fun t27 w=>
 GDo t24 true (fun E=>E t7 w) w fun t28 w=>
 GDo t24 true (fun E=>DoX prog (mBin .sub 3 t28 (.int .i64 1)) w (pk K) E) w fun t29 w=>
 GDo t24 true (fun E=>DoX prog (mIA 39 t27 t29) w (pk K) E) w fun t30 w=>
 GDo t24 true (fun E=>DoX prog (aB 9 t30) w (pk K) E) w fun t31 w=>
 GDo t24 true (fun E=>E t1 w) w fun t32 w=>
 GDo t24 true (fun E=>DoX prog (mBin .gtr 9 t31 t32) w (pk K) E) w fun t33 w=>
 DoX prog (aL t24 t33 (.bool false)) w (pk K) fun t34 w=>
 IfX t34 (QuietX w (fun C2=>
 QDo prog C2 (mFA 42 t3 4) fun t35=>
 QDo prog C2 (aB 39 t35) fun t36=>
 QDo prog C2 (mFA 42 t3 4) fun t38=>
 QDo prog C2 (aB 39 t38) fun t39=>
 QDo prog C2 (mBin .sub 3 t7 (.int .i64 1)) fun t41=>
 QDo prog C2 (mIA 39 t39 t41) fun t42=>
 QDo prog C2 (aB 9 t42) fun t43=>
 QDo prog C2 (mIA 39 t36 t7) fun t44=>
 ∀w,C2 w →
 DoX prog (aD 9 t44 t43) w (pk K) fun _ w=>
 QuietX w (fun C3=>
 QDo prog C3 (mFA 42 t3 5) fun t45=>
 QDo prog C3 (aB 40 t45) fun t46=>
 QDo prog C3 (mFA 42 t3 5) fun t48=>
 QDo prog C3 (aB 40 t48) fun t49=>
 QDo prog C3 (mBin .sub 3 t7 (.int .i64 1)) fun t51=>
 QDo prog C3 (mIA 40 t49 t51) fun t52=>
 QDo prog C3 (aB 42 t52) fun t53=>
 QDo prog C3 (mIA 40 t46 t7) fun t54=>
 ∀w,C3 w →
 DoX prog (aD 42 t54 t53) w (pk K) fun _ w=>
 DoX prog (mBin .sub 3 t7 (.int .i64 1)) w (pk K) fun t56 w=>
 N1 [t56] w))) (DoX prog (mFA 42 t3 4) w (pk K) fun t57 w=>
 DoX prog (aB 39 t57) w (pk K) fun t58 w=>
 DoX prog (mIA 39 t58 t7) w (pk K) fun t61 w=>
 DoX prog (aD 9 t61 t1) w (pk K) fun _ w=>
 DoX prog (mFA 42 t3 5) w (pk K) fun t62 w=>
 DoX prog (aB 40 t62) w (pk K) fun t63 w=>
 DoX prog (aB 42 t5) w (pk K) fun t65 w=>
 DoX prog (mIA 40 t63 t7) w (pk K) fun t66 w=>
 DoX prog (aD 42 t66 t65) w (pk K) fun _ w=>
 DoX prog (aB 42 t3) w (pk K) fun t67 w=>
 DoX prog (aD 42 t6 t67) w (pk K) fun _ w=>
 RetX prog [.cell t6 42] w K)
def jS (t0 t1 t2:Value)(w:World)(K:Ending→World→Prop):Prop:=
 DoX prog (mBox 42 t0) w (pk K) fun t3 w=>
 DoX prog (mBox 42 t2) w (pk K) fun t5 w=>
 DoX prog (aN 42) w (pk K) fun t6 w=>
 DoX prog (mFA 42 t3 4) w (pk K) fun t8 w=>
 DoX prog (aB 39 t8) w (pk K) fun t9 w=>
 DoX prog (mB .len #[39] 3 #[false] #[t9]) w (pk K) fun t10 w=>
 DoX prog (mFA 42 t3 4) w (pk K) fun t11 w=>
 DoX prog (aB 39 t11) w (pk K) fun t12 w=>
 DoX prog (aP 39 1 #[(0,t1)]) w (pk K) fun t14 w=>
 DoX prog (mB .append #[39,39] 39 #[false,false] #[t12,t14]) w (pk K) fun t15 w=>
 DoX prog (mFA 42 t3 4) w (pk K) fun t16 w=>
 DoX prog (aD 39 t16 t15) w (pk K) fun _ w=>
 DoX prog (mFA 42 t3 5) w (pk K) fun t17 w=>
 DoX prog (aB 40 t17) w (pk K) fun t18 w=>
 DoX prog (aB 42 t5) w (pk K) fun t19 w=>
 DoX prog (aP 40 1 #[(0,t19)]) w (pk K) fun t20 w=>
 DoX prog (mB .append #[40,40] 40 #[false,false] #[t18,t20]) w (pk K) fun t21 w=>
 DoX prog (mFA 42 t3 5) w (pk K) fun t22 w=>
 DoX prog (aD 40 t22 t21) w (pk K) fun _ w=>
 LoopX [t10] w (fun vs1 w N1=>∀_:Sg,nL t1 t3 t5 t6 (vs1.getD 0 undef) w N1 K)
theorem xG (t0 t1 t2:Value)(w:World)(K:Ending→World→Prop):wpX prog 68 [] [(4,[7])] none (aK Tryz.f120) (topQ prog [.cell 6 42] K) (aJ [t0,t1,t2]) [] w=jS t0 t1 t2 w K:=by kernel_rfl
theorem xO {t0 t1 t2:Value}{w:World}{K:Ending→World→Prop}(h:jS t0 t1 t2 w K):Calls prog 120 #[t0,t1,t2] w K:=
 aA Tryz.func120 rfl rfl rfl rfl (Eq.mpr (xG t0 t1 t2 w K) h)
def mA (t7 t8 t10 t15:Value)(w:World)(N1:List Value→World→Prop):Prop:=
 N1 [t15,t7,t8,t10] w
def eS (t0 t2 t6 t7 t8 t9 t10 t11 t13:Value)(w:World)(N1 N3:List Value→World→Prop)(K:Ending→World→Prop):Prop:=
 DoX prog (mB .len #[39] 3 #[false] #[t10]) w (pk K) fun t48 w=>
 DoX prog (mBin .lss 3 t13 t48) w (pk K) fun t49 w=>
 IfX t49 (QuietX w (fun C4=>
 QDo prog C4 (mIA 39 t10 t13) fun t54=>
 QDo prog C4 (aB 9 t54) fun t55=>
 QDo prog C4 (mFA 53 t11 4) fun t56=>
 QDo prog C4 (aB 9 t56) fun t57=>
 QDo prog C4 (mEq .eql 9 (.tmp 55) (.tmp 57) t55 t57) fun t58=>
 ∀w,C4 w →
 IfX t58 (DoX prog (aG 42 #[]) w (pk K) fun t59 w=>
 DoX prog (aD 42 t6 t59) w (pk K) fun _ w=>
 RetX prog [.cell t6 42,.val (.int .i64 0),.val (.int .i64 9)] w K) (DoX prog (mBin .add 3 t13 (.int .i64 1)) w (pk K) fun t51 w=>
 N3 [t7,t8,t51] w))) (DoX prog (mB .len #[39] 3 #[false] #[t10]) w (pk K) fun t61 w=>
 DoX prog (mEq .eql 3 (.tmp 61) (.const (.int .i64 8191)) t61 (.int .i64 8191)) w (pk K) fun t62 w=>
 IfX t62 (DoX prog (aG 42 #[]) w (pk K) fun t63 w=>
 DoX prog (aD 42 t6 t63) w (pk K) fun _ w=>
 RetX prog [.cell t6 42,.val (.int .i64 0),.val (.int .i64 6)] w K) (DoX prog (mFA 53 t11 4) w (pk K) fun t65 w=>
 DoX prog (aB 9 t65) w (pk K) fun t66 w=>
 DoX prog (aP 39 1 #[(0,t66)]) w (pk K) fun t67 w=>
 DoX prog (mB .append #[39,39] 39 #[false,false] #[t10,t67]) w (pk K) fun t68 w=>
 DoX prog (mFA 53 t11 2) w (pk K) fun t71 w=>
 DoX prog (aB 3 t71) w (pk K) fun t72 w=>
 DoX prog (mBin .add 3 t2 (.int .i64 1)) w (pk K) fun t74 w=>
 CallX prog 47 #[t0,t72,t74] w (pk K) fun t75 w=>
 DoX prog (mExt t75 0) w (pk K) fun t76 w=>
 DoX prog (mExt t75 1) w (pk K) fun t77 w=>
 DoX prog (mExt t75 2) w (pk K) fun t78 w=>
 DoX prog (aN 42) w (pk K) fun t14 w=>
 DoX prog (aD 42 t14 t76) w (pk K) fun _ w=>
 DoX prog (mEq .neq 24 (.tmp 79) (.const (.int .i64 0)) t78 (.int .i64 0)) w (pk K) fun t80 w=>
 IfX t80 (DoX prog (aG 42 #[]) w (pk K) fun t81 w=>
 DoX prog (aD 42 t6 t81) w (pk K) fun _ w=>
 RetX prog [.cell t6 42,.val (.int .i64 0),.val t78] w K) (JoinX (fun J5=>
 DoX prog (mFA 42 t14 0) w (pk K) fun t83 w=>
 DoX prog (aB 3 t83) w (pk K) fun t84 w=>
 DoX prog (mEq .neq 3 (.tmp 84) (.const (.int .i64 0)) t84 (.int .i64 0)) w (pk K) fun t85 w=>
 IfX t85 (DoX prog (aB 42 t9) w (pk K) fun t86 w=>
 DoX prog (mFA 53 t11 4) w (pk K) fun t87 w=>
 DoX prog (aB 9 t87) w (pk K) fun t88 w=>
 DoX prog (aB 42 t14) w (pk K) fun t89 w=>
 CallX prog 120 #[t86,t88,t89] w (pk K) fun t90 w=>
 DoX prog (aD 42 t9 t90) w (pk K) fun _ w=>
 J5 [] w) (J5 [] w)) (fun vs5 w=>∀_:Sg,mA t7 t8 t68 t77 w N1))))
def lM (t0 t1 t2 t6 t7 t8 t9 t10:Value)(w:World)(N1:List Value→World→Prop)(K:Ending→World→Prop):Prop:=
 CallX prog 18 #[t0,t1] w (pk K) fun t20 w=>
 DoX prog (mExt t20 0) w (pk K) fun t21 w=>
 DoX prog (mExt t20 1) w (pk K) fun t22 w=>
 DoX prog (aN 53) w (pk K) fun t11 w=>
 DoX prog (aD 53 t11 t21) w (pk K) fun _ w=>
 DoX prog (mEq .neq 24 (.tmp 23) (.const (.int .i64 0)) t22 (.int .i64 0)) w (pk K) fun t24 w=>
 IfX t24 (DoX prog (aG 42 #[]) w (pk K) fun t25 w=>
 DoX prog (aD 42 t6 t25) w (pk K) fun _ w=>
 RetX prog [.cell t6 42,.val (.int .i64 0),.val t22] w K) (DoX prog (mFA 53 t11 0) w (pk K) fun t27 w=>
 DoX prog (aB 3 t27) w (pk K) fun t28 w=>
 DoX prog (mEq .eql 3 (.tmp 28) (.const (.int .i64 6)) t28 (.int .i64 6)) w (pk K) fun t29 w=>
 GDo t29 true (fun E=>DoX prog (mFA 53 t11 4) w (pk K) E) w fun t31 w=>
 GDo t29 true (fun E=>DoX prog (aB 9 t31) w (pk K) E) w fun t32 w=>
 GDo t29 true (fun E=>DoX prog (mEq .eql 9 (.tmp 32) (.const (.string ⟨#[62,62]⟩)) t32 (.string ⟨#[62,62]⟩)) w (pk K) E) w fun t33 w=>
 DoX prog (aL t29 t33 (.bool false)) w (pk K) fun t34 w=>
 IfX t34 (HeldX w (fun S2 w=>
 HDo prog S2 (aB 42 t9) fun t35=>
 HDo prog (fun _=>True) (mFA 53 t11 2) fun t36=>
 HDo prog S2 (aB 3 t36) fun t37=>
 DoX prog (aD 42 t6 t35) w (pm1 (pm1 (pm1 (pm1 (pm1 (pk K)))))) fun _ w=>
 S2 w∧(RetX prog [.cell t6 42,.val t37,.val (.int .i64 0)] w K))) (DoX prog (mFA 53 t11 0) w (pk K) fun t38 w=>
 DoX prog (aB 3 t38) w (pk K) fun t39 w=>
 DoX prog (mEq .eql 3 (.tmp 39) (.const (.int .i64 0)) t39 (.int .i64 0)) w (pk K) fun t40 w=>
 IfX t40 (DoX prog (aG 42 #[]) w (pk K) fun t41 w=>
 DoX prog (aD 42 t6 t41) w (pk K) fun _ w=>
 RetX prog [.cell t6 42,.val (.int .i64 0),.val (.int .i64 4)] w K) (DoX prog (mFA 53 t11 0) w (pk K) fun t42 w=>
 DoX prog (aB 3 t42) w (pk K) fun t43 w=>
 DoX prog (mEq .neq 3 (.tmp 43) (.const (.int .i64 4)) t43 (.int .i64 4)) w (pk K) fun t44 w=>
 IfX t44 (DoX prog (aG 42 #[]) w (pk K) fun t45 w=>
 DoX prog (aD 42 t6 t45) w (pk K) fun _ w=>
 RetX prog [.cell t6 42,.val (.int .i64 0),.val (.int .i64 3)] w K) (LoopX [t7,t8,(.int .i64 0)] w (fun vs3 w N3=>∀_:Sg,eS t0 t2 t6 (vs3.getD 0 undef) (vs3.getD 1 undef) t9 t10 t11 (vs3.getD 2 undef) w N1 N3 K)))))
def gR (t0 t1 t2:Value)(w:World)(K:Ending→World→Prop):Prop:=
 DoX prog (aN 42) w (pk K) fun t6 w=>
 DoX prog (aG 42 #[(0,(.int .i64 7))]) w (pk K) fun t16 w=>
 DoX prog (aN 42) w (pk K) fun t9 w=>
 DoX prog (aD 42 t9 t16) w (pk K) fun _ w=>
 LoopX [t1,(.int .i64 0),(.int .i64 0),(.slice none 0 0)] w (fun vs1 w N1=>∀_:Sg,lM t0 (vs1.getD 0 undef) t2 t6 (vs1.getD 1 undef) (vs1.getD 2 undef) t9 (vs1.getD 3 undef) w N1 K)
theorem vX (t0 t1 t2:Value)(w:World)(K:Ending→World→Prop):wpX prog 92 [(25,[])] [(3,[1,7,8,10]),(13,[7,8,13])] none (aK Tryz.f81) (topQ prog [.cell 6 42,.tmp 7,.tmp 8] K) (aJ [t0,t1,t2]) [] w=gR t0 t1 t2 w K:=by kernel_rfl
theorem vI {t0 t1 t2:Value}{w:World}{K:Ending→World→Prop}(h:gR t0 t1 t2 w K):Calls prog 81 #[t0,t1,t2] w K:=
 aA Tryz.func81 rfl rfl rfl rfl (Eq.mpr (vX t0 t1 t2 w K) h)
def dI (t0 t1 t2:Value)(w:World)(K:Ending→World→Prop):Prop:=
 DoX prog (aN 42) w (pk K) fun t6 w=>
 CallX prog 18 #[t0,t1] w (pk K) fun t17 w=>
 DoX prog (mExt t17 0) w (pk K) fun t18 w=>
 DoX prog (mExt t17 1) w (pk K) fun t19 w=>
 DoX prog (aN 53) w (pk K) fun t9 w=>
 DoX prog (aD 53 t9 t18) w (pk K) fun _ w=>
 DoX prog (mEq .neq 24 (.tmp 20) (.const (.int .i64 0)) t19 (.int .i64 0)) w (pk K) fun t21 w=>
 IfX t21 (DoX prog (aG 42 #[]) w (pk K) fun t22 w=>
 DoX prog (aD 42 t6 t22) w (pk K) fun _ w=>
 RetX prog [.cell t6 42,.val (.int .i64 0),.val t19] w K) (DoX prog (mFA 53 t9 0) w (pk K) fun t24 w=>
 DoX prog (aB 3 t24) w (pk K) fun t25 w=>
 DoX prog (mEq .eql 3 (.tmp 25) (.const (.int .i64 0)) t25 (.int .i64 0)) w (pk K) fun t26 w=>
 IfX t26 (DoX prog (aG 42 #[]) w (pk K) fun t27 w=>
 DoX prog (aD 42 t6 t27) w (pk K) fun _ w=>
 RetX prog [.cell t6 42,.val (.int .i64 0),.val (.int .i64 4)] w K) (DoX prog (aB 53 t9) w (pk K) fun t28 w=>
 CallX prog 72 #[t28] w (pk K) fun t29 w=>
 DoX prog (mUn .not t29) w (pk K) fun t30 w=>
 IfX t30 (DoX prog (aG 42 #[]) w (pk K) fun t31 w=>
 DoX prog (aD 42 t6 t31) w (pk K) fun _ w=>
 RetX prog [.cell t6 42,.val (.int .i64 0),.val (.int .i64 3)] w K) (DoX prog (mBin .gtr 3 t2 (.int .i64 24)) w (pk K) fun t33 w=>
 IfX t33 (DoX prog (aG 42 #[]) w (pk K) fun t34 w=>
 DoX prog (aD 42 t6 t34) w (pk K) fun _ w=>
 RetX prog [.cell t6 42,.val (.int .i64 0),.val (.int .i64 7)] w K) (DoX prog (mFA 53 t9 0) w (pk K) fun t35 w=>
 DoX prog (aB 3 t35) w (pk K) fun t36 w=>
 DoX prog (mEq .eql 3 (.tmp 36) (.const (.int .i64 1)) t36 (.int .i64 1)) w (pk K) fun t38 w=>
 IfX t38 (DoX prog (aB 53 t9) w (pk K) fun t41 w=>
 CallX prog 73 #[t0,t41] w (pk K) fun t42 w=>
 DoX prog (mExt t42 0) w (pk K) fun t43 w=>
 DoX prog (mExt t42 1) w (pk K) fun t44 w=>
 DoX prog (mExt t42 2) w (pk K) fun t45 w=>
 IfX t45 (DoX prog (mFA 53 t9 3) w (pk K) fun t47 w=>
 DoX prog (aB 2 t47) w (pk K) fun t48 w=>
 CallX prog 74 #[t48,t43] w (pk K) fun t50 w=>
 DoX prog (aD 42 t6 t50) w (pk K) fun _ w=>
 RetX prog [.cell t6 42,.val t44,.val (.int .i64 0)] w K) (HeldX w (fun S1 w=>
 HDo prog (fun _=>True) (mFA 53 t9 3) fun t52=>
 HDo prog S1 (aB 2 t52) fun t53=>
 HDo prog (fun _=>True) (mFA 53 t9 2) fun t55=>
 HDo prog S1 (aB 3 t55) fun t56=>
 CallX prog 75 #[t53] w (pm1 (pm1 (pm1 (pm1 (pm1 (pm1 (pk K))))))) fun t54 w=>
 S1 w∧(DoX prog (aD 42 t6 t54) w (pm1 (pm1 (pm1 (pm1 (pm1 (pm1 (pk K))))))) fun _ w=>
 S1 w∧(RetX prog [.cell t6 42,.val t56,.val (.int .i64 0)] w K))))) (DoX prog (mEq .eql 3 (.tmp 36) (.const (.int .i64 2)) t36 (.int .i64 2)) w (pk K) fun t58 w=>
 IfX t58 (HeldX w (fun S2 w=>
 HDo prog (fun _=>True) (mFA 53 t9 3) fun t59=>
 HDo prog S2 (aB 2 t59) fun t60=>
 HDo prog (fun _=>True) (mFA 53 t9 2) fun t62=>
 HDo prog S2 (aB 3 t62) fun t63=>
 CallX prog 76 #[t60] w (pm1 (pm1 (pm1 (pm1 (pm1 (pm1 (pk K))))))) fun t61 w=>
 S2 w∧(DoX prog (aD 42 t6 t61) w (pm1 (pm1 (pm1 (pm1 (pm1 (pm1 (pk K))))))) fun _ w=>
 S2 w∧(RetX prog [.cell t6 42,.val t63,.val (.int .i64 0)] w K)))) (DoX prog (mEq .eql 3 (.tmp 36) (.const (.int .i64 3)) t36 (.int .i64 3)) w (pk K) fun t65 w=>
 IfX t65 (HeldX w (fun S3 w=>
 HDo prog (fun _=>True) (mFA 53 t9 4) fun t66=>
 HDo prog S3 (aB 9 t66) fun t67=>
 HDo prog (fun _=>True) (mFA 53 t9 2) fun t69=>
 HDo prog S3 (aB 3 t69) fun t70=>
 CallX prog 77 #[t67] w (pm1 (pm1 (pm1 (pm1 (pm1 (pm1 (pk K))))))) fun t68 w=>
 S3 w∧(DoX prog (aD 42 t6 t68) w (pm1 (pm1 (pm1 (pm1 (pm1 (pm1 (pk K))))))) fun _ w=>
 S3 w∧(RetX prog [.cell t6 42,.val t70,.val (.int .i64 0)] w K)))) (DoX prog (mEq .eql 3 (.tmp 36) (.const (.int .i64 4)) t36 (.int .i64 4)) w (pk K) fun t72 w=>
 IfX t72 (HeldX w (fun S4 w=>
 HDo prog (fun _=>True) (mFA 53 t9 4) fun t73=>
 HDo prog S4 (aB 9 t73) fun t74=>
 HDo prog (fun _=>True) (mFA 53 t9 2) fun t76=>
 HDo prog S4 (aB 3 t76) fun t77=>
 CallX prog 78 #[t74] w (pm1 (pm1 (pm1 (pm1 (pm1 (pm1 (pk K))))))) fun t75 w=>
 S4 w∧(DoX prog (aD 42 t6 t75) w (pm1 (pm1 (pm1 (pm1 (pm1 (pm1 (pk K))))))) fun _ w=>
 S4 w∧(RetX prog [.cell t6 42,.val t77,.val (.int .i64 0)] w K)))) (DoX prog (mEq .eql 3 (.tmp 36) (.const (.int .i64 5)) t36 (.int .i64 5)) w (pk K) fun t79 w=>
 IfX t79 (DoX prog (mFA 53 t9 4) w (pk K) fun t80 w=>
 DoX prog (aB 9 t80) w (pk K) fun t81 w=>
 DoX prog (mEq .eql 9 (.tmp 81) (.const (.string ⟨#[110,117,108,108]⟩)) t81 (.string ⟨#[110,117,108,108]⟩)) w (pk K) fun t82 w=>
 IfX t82 (HeldX w (fun S5 w=>
 HDo prog (fun _=>True) (aG 42 #[]) fun t83=>
 HDo prog (fun _=>True) (mFA 53 t9 2) fun t84=>
 HDo prog S5 (aB 3 t84) fun t85=>
 DoX prog (aD 42 t6 t83) w (pm1 (pm1 (pm1 (pm1 (pm1 (pk K)))))) fun _ w=>
 S5 w∧(RetX prog [.cell t6 42,.val t85,.val (.int .i64 0)] w K))) (HeldX w (fun S6 w=>
 HDo prog (fun _=>True) (mFA 53 t9 4) fun t86=>
 HDo prog S6 (aB 9 t86) fun t87=>
 HDo prog (fun _=>True) (mEq .eql 9 (.tmp 87) (.const (.string ⟨#[116,114,117,101]⟩)) t87 (.string ⟨#[116,114,117,101]⟩)) fun t88=>
 HDo prog (fun _=>True) (mFA 53 t9 2) fun t90=>
 HDo prog S6 (aB 3 t90) fun t91=>
 CallX prog 79 #[t88] w (pm1 (pm1 (pm1 (pm1 (pm1 (pm1 (pm1 (pk K)))))))) fun t89 w=>
 S6 w∧(DoX prog (aD 42 t6 t89) w (pm1 (pm1 (pm1 (pm1 (pm1 (pm1 (pm1 (pk K)))))))) fun _ w=>
 S6 w∧(RetX prog [.cell t6 42,.val t91,.val (.int .i64 0)] w K))))) (DoX prog (mFA 53 t9 4) w (pk K) fun t92 w=>
 DoX prog (aB 9 t92) w (pk K) fun t93 w=>
 DoX prog (mEq .eql 9 (.tmp 93) (.const (.string ⟨#[91]⟩)) t93 (.string ⟨#[91]⟩)) w (pk K) fun t94 w=>
 IfX t94 (DoX prog (mFA 53 t9 2) w (pk K) fun t96 w=>
 DoX prog (aB 3 t96) w (pk K) fun t97 w=>
 CallX prog 80 #[t0,t97,t2] w (pk K) fun t99 w=>
 DoX prog (mExt t99 0) w (pk K) fun t100 w=>
 DoX prog (mExt t99 1) w (pk K) fun t101 w=>
 DoX prog (mExt t99 2) w (pk K) fun t102 w=>
 DoX prog (aD 42 t6 t100) w (pk K) fun _ w=>
 RetX prog [.cell t6 42,.val t101,.val t102] w K) (DoX prog (mFA 53 t9 2) w (pk K) fun t104 w=>
 DoX prog (aB 3 t104) w (pk K) fun t105 w=>
 CallX prog 81 #[t0,t105,t2] w (pk K) fun t107 w=>
 DoX prog (mExt t107 0) w (pk K) fun t108 w=>
 DoX prog (mExt t107 1) w (pk K) fun t109 w=>
 DoX prog (mExt t107 2) w (pk K) fun t110 w=>
 DoX prog (aD 42 t6 t108) w (pk K) fun _ w=>
 RetX prog [.cell t6 42,.val t109,.val t110] w K))))))))))
theorem rX (t0 t1 t2:Value)(w:World)(K:Ending→World→Prop):wpX prog 111 [] [] none (aK Tryz.f47) (topQ prog [.cell 6 42,.tmp 7,.tmp 8] K) (aJ [t0,t1,t2]) [] w=dI t0 t1 t2 w K:=by kernel_rfl
theorem iQ {t0 t1 t2:Value}{w:World}{K:Ending→World→Prop}(h:dI t0 t1 t2 w K):Calls prog 47 #[t0,t1,t2] w K:=
 aA Tryz.func47 rfl rfl rfl rfl (Eq.mpr (rX t0 t1 t2 w K) h)
def eO (t0 t1:Value)(w:World)(K:Ending→World→Prop):Prop:=
 DoX prog (aN 42) w (pk K) fun t4 w=>
 DoX prog (mBin .lss 3 t1 (.int .i64 0)) w (pk K) fun t8 w=>
 GDo t8 false (fun E=>E t1 w) w fun t10 w=>
 GDo t8 false (fun E=>E t0 w) w fun t11 w=>
 GDo t8 false (fun E=>DoX prog (mB .len #[9] 3 #[false] #[t11]) w (pk K) E) w fun t12 w=>
 GDo t8 false (fun E=>DoX prog (mBin .gtr 3 t10 t12) w (pk K) E) w fun t13 w=>
 DoX prog (aL t8 (.bool true) t13) w (pk K) fun t14 w=>
 IfX t14 (DoX prog (aG 42 #[]) w (pk K) fun t15 w=>
 DoX prog (aD 42 t4 t15) w (pk K) fun _ w=>
 RetX prog [.cell t4 42,.val (.int .i64 0),.val (.int .i64 1)] w K) (CallX prog 47 #[t0,t1,(.int .i64 1)] w (pk K) fun t18 w=>
 DoX prog (mExt t18 0) w (pk K) fun t19 w=>
 DoX prog (mExt t18 1) w (pk K) fun t20 w=>
 DoX prog (mExt t18 2) w (pk K) fun t21 w=>
 DoX prog (aD 42 t4 t19) w (pk K) fun _ w=>
 RetX prog [.cell t4 42,.val t20,.val t21] w K)
theorem rV (t0 t1:Value)(w:World)(K:Ending→World→Prop):wpX prog 22 [] [] none (aK Tryz.f22) (topQ prog [.cell 4 42,.tmp 5,.tmp 6] K) (aJ [t0,t1]) [] w=eO t0 t1 w K:=by kernel_rfl
theorem rJ {t0 t1:Value}{w:World}{K:Ending→World→Prop}(h:eO t0 t1 w K):Calls prog 22 #[t0,t1] w K:=
 aA Tryz.func22 rfl rfl rfl rfl (Eq.mpr (rV t0 t1 w K) h)
end
section
open Eng
def gU (t0 t1:Value)(w:World)(K:Ending→World→Prop):Prop:=
 DoX prog (aN 53) w (pk K) fun t4 w=>
 DoX prog (mNil t0) w (pk K) fun t10 w=>
 DoX prog (mFA 144 t10 0) w (pk K) fun t11 w=>
 DoX prog (aB 9 t11) w (pk K) fun t12 w=>
 CallX prog 61 #[t12,t1] w (pk K) fun t14 w=>
 DoX prog (mExt t14 0) w (pk K) fun t15 w=>
 DoX prog (mExt t14 1) w (pk K) fun t16 w=>
 DoX prog (aN 53) w (pk K) fun t6 w=>
 DoX prog (aD 53 t6 t15) w (pk K) fun _ w=>
 DoX prog (aB 53 t6) w (pk K) fun t17 w=>
 DoX prog (mEq .eql 24 (.tmp 18) (.const (.int .i64 0)) t16 (.int .i64 0)) w (pk K) fun t19 w=>
 DoX prog (aD 53 t4 t17) w (pk K) fun _ w=>
 RetX prog [.cell t4 53,.val t19] w K
theorem wV (t0 t1:Value)(w:World)(K:Ending→World→Prop):wpX prog 20 [] [] none (aK Tryz.f208) (topQ prog [.cell 4 53,.tmp 5] K) (aJ [t0,t1]) [] w=gU t0 t1 w K:=by kernel_rfl
theorem wN {t0 t1:Value}{w:World}{K:Ending→World→Prop}(h:gU t0 t1 w K):Calls prog 208 #[t0,t1] w K:=
 aA Tryz.func208 rfl rfl rfl rfl (Eq.mpr (wV t0 t1 w K) h)
def mK (t0 t2 t3:Value)(w:World)(K:Ending→World→Prop):Prop:=
 DoX prog (mFA 53 t3 2) w (pk K) fun t26 w=>
 DoX prog (aB 3 t26) w (pk K) fun t27 w=>
 DoX prog (mNil t0) w (pk K) fun t28 w=>
 DoX prog (mFA 144 t28 1) w (pk K) fun t29 w=>
 DoX prog (aD 3 t29 t27) w (pk K) fun _ w=>
 DoX prog (aB 53 t3) w (pk K) fun t30 w=>
 DoX prog (aD 53 t2 t30) w (pk K) fun _ w=>
 RetX prog [.cell t2 53] w K
def lY (t0 t2 t3:Value)(w:World)(K:Ending→World→Prop):Prop:=
 JoinX (fun J3=>
 DoX prog (mFA 53 t3 0) w (pk K) fun t21 w=>
 DoX prog (aB 3 t21) w (pk K) fun t22 w=>
 DoX prog (mEq .eql 3 (.tmp 22) (.const (.int .i64 0)) t22 (.int .i64 0)) w (pk K) fun t23 w=>
 IfX t23 (DoX prog (pU 203 (.int .i64 4)) w (pk K) fun t24 w=>
 DoX prog (iT t24) w (pk K) fun _ w=>
 J3 [] w) (J3 [] w)) (fun vs3 w=>∀_:Sg,mK t0 t2 t3 w K)
def dK (t0 t2 t3 t4:Value)(w:World)(K:Ending→World→Prop):Prop:=
 JoinX (fun J2=>
 DoX prog (mEq .neq 24 (.tmp 17) (.const (.int .i64 0)) t4 (.int .i64 0)) w (pk K) fun t18 w=>
 IfX t18 (DoX prog (pU 203 t4) w (pk K) fun t20 w=>
 DoX prog (iT t20) w (pk K) fun _ w=>
 J2 [] w) (J2 [] w)) (fun vs2 w=>∀_:Sg,lY t0 t2 t3 w K)
def gT (t0:Value)(w:World)(K:Ending→World→Prop):Prop:=
 DoX prog (aN 53) w (pk K) fun t2 w=>
 HeldX w (fun S1 w=>
 HDo prog (fun _=>True) (mNil t0) fun t7=>
 HDo prog (fun _=>True) (mFA 144 t7 0) fun t8=>
 HDo prog S1 (aB 9 t8) fun t9=>
 HDo prog (fun _=>True) (mNil t0) fun t11=>
 HDo prog (fun _=>True) (mFA 144 t11 1) fun t12=>
 HDo prog S1 (aB 3 t12) fun t13=>
 (CallX prog 61 #[t9,t13] w (pm1 (pm1 (pm1 (pm1 (pm1 (pm1 (pm1 (pm1 (pm1 (pm1 (pm1 (pm1 (pk K))))))))))))) fun t14 w=>
 (HDo prog (fun _=>True) (mExt t14 0) fun t15=>
 HDo prog (fun _=>True) (mExt t14 1) fun t16=>
 DoX prog (aN 53) w (pm1 (pm1 (pm1 (pm1 (pm1 (pm1 (pm1 (pm1 (pm1 (pm1 (pm1 (pm1 (pk K))))))))))))) fun t3 w=>
 S1 w∧(DoX prog (aD 53 t3 t15) w (pm1 (pm1 (pm1 (pm1 (pm1 (pm1 (pm1 (pm1 (pm1 (pm1 (pm1 (pm1 (pk K))))))))))))) fun _ w=>
 (dK t0 t2 t3 t16 w K))))∧(DoX prog (aN 53) w (pm1 (pm1 (pm1 (pm1 (pm1 (pm1 (pm1 (pm1 (pm1 (pm1 (pm1 (pm1 (pk K))))))))))))) fun t3_1 w=>
 S1 w∧(CallX prog 61 #[t9,t13] w (pm1 (pm1 (pm1 (pm1 (pm1 (pm1 (pm1 (pm1 (pm1 (pm1 (pm1 (pm1 (pk K))))))))))))) fun t14_1 w=>
 (HDo prog (fun _=>True) (mExt t14_1 0) fun t15_1=>
 HDo prog (fun _=>True) (mExt t14_1 1) fun t16_1=>
 DoX prog (aD 53 t3_1 t15_1) w (pm1 (pm1 (pm1 (pm1 (pm1 (pm1 (pm1 (pm1 (pm1 (pm1 (pm1 (pm1 (pk K))))))))))))) fun _ w=>
 (dK t0 t2 t3_1 t16_1 w K)))))
theorem vW (t0:Value)(w:World)(K:Ending→World→Prop):wpX prog 31 [(4,[]),(6,[])] [] none (aK Tryz.f151) (topQ prog [.cell 2 53] K) (aJ [t0]) [] w=gT t0 w K:=by kernel_rfl
theorem wC {t0:Value}{w:World}{K:Ending→World→Prop}(h:gT t0 w K):Calls prog 151 #[t0] w K:=
 aA Tryz.func151 rfl rfl rfl rfl (Eq.mpr (vW t0 w K) h)
def yO (t0 t1 t2:Value)(w:World)(K:Ending→World→Prop):Prop:=
 DoX prog (mBox 53 t0) w (pk K) fun t3 w=>
 DoX prog (mFA 53 t3 0) w (pk K) fun t7 w=>
 DoX prog (aB 3 t7) w (pk K) fun t8 w=>
 DoX prog (mEq .eql 3 (.tmp 8) (.tmp 9) t8 t1) w (pk K) fun t10 w=>
 GDo t10 true (fun E=>DoX prog (mFA 53 t3 4) w (pk K) E) w fun t12 w=>
 GDo t10 true (fun E=>DoX prog (aB 9 t12) w (pk K) E) w fun t13 w=>
 GDo t10 true (fun E=>E t2 w) w fun t14 w=>
 GDo t10 true (fun E=>DoX prog (mEq .eql 9 (.tmp 13) (.tmp 14) t13 t14) w (pk K) E) w fun t15 w=>
 DoX prog (aL t10 t15 (.bool false)) w (pk K) fun t16 w=>
 K (.returned t16) w
theorem Fz (t0 t1 t2:Value)(w:World)(K:Ending→World→Prop):wpX prog 17 [] [] none (aK Tryz.f209) (topQ prog [.tmp 6] K) (aJ [t0,t1,t2]) [] w=yO t0 t1 t2 w K:=by kernel_rfl
theorem E7 {t0 t1 t2:Value}{w:World}{K:Ending→World→Prop}(h:yO t0 t1 t2 w K):Calls prog 209 #[t0,t1,t2] w K:=
 aA Tryz.func209 rfl rfl rfl rfl (Eq.mpr (Fz t0 t1 t2 w K) h)
def qT (t0:Value)(w:World)(K:Ending→World→Prop):Prop:=
 DoX prog (mBox 53 t0) w (pk K) fun t1 w=>
 DoX prog (mFA 53 t1 0) w (pk K) fun t3 w=>
 DoX prog (aB 3 t3) w (pk K) fun t4 w=>
 DoX prog (mEq .eql 3 (.tmp 4) (.const (.int .i64 5)) t4 (.int .i64 5)) w (pk K) fun t6 w=>
 IfX t6 (DoX prog (mFA 53 t1 4) w (pk K) fun t7 w=>
 DoX prog (aB 9 t7) w (pk K) fun t8 w=>
 DoX prog (mEq .eql 9 (.tmp 8) (.const (.string ⟨#[116,114,117,101]⟩)) t8 (.string ⟨#[116,114,117,101]⟩)) w (pk K) fun t9 w=>
 GDo t9 false (fun E=>DoX prog (mFA 53 t1 4) w (pk K) E) w fun t11 w=>
 GDo t9 false (fun E=>DoX prog (aB 9 t11) w (pk K) E) w fun t12 w=>
 GDo t9 false (fun E=>DoX prog (mEq .eql 9 (.tmp 12) (.const (.string ⟨#[102,97,108,115,101]⟩)) t12 (.string ⟨#[102,97,108,115,101]⟩)) w (pk K) E) w fun t13 w=>
 DoX prog (aL t9 (.bool true) t13) w (pk K) fun t14 w=>
 GDo t14 false (fun E=>DoX prog (mFA 53 t1 4) w (pk K) E) w fun t16 w=>
 GDo t14 false (fun E=>DoX prog (aB 9 t16) w (pk K) E) w fun t17 w=>
 GDo t14 false (fun E=>DoX prog (mEq .eql 9 (.tmp 17) (.const (.string ⟨#[110,117,108,108]⟩)) t17 (.string ⟨#[110,117,108,108]⟩)) w (pk K) E) w fun t18 w=>
 DoX prog (aL t14 (.bool true) t18) w (pk K) fun t19 w=>
 K (.returned t19) w) (DoX prog (mEq .eql 3 (.tmp 4) (.const (.int .i64 6)) t4 (.int .i64 6)) w (pk K) fun t21 w=>
 IfX t21 (DoX prog (mFA 53 t1 4) w (pk K) fun t22 w=>
 DoX prog (aB 9 t22) w (pk K) fun t23 w=>
 DoX prog (mEq .eql 9 (.tmp 23) (.const (.string ⟨#[91]⟩)) t23 (.string ⟨#[91]⟩)) w (pk K) fun t24 w=>
 GDo t24 false (fun E=>DoX prog (mFA 53 t1 4) w (pk K) E) w fun t26 w=>
 GDo t24 false (fun E=>DoX prog (aB 9 t26) w (pk K) E) w fun t27 w=>
 GDo t24 false (fun E=>DoX prog (mEq .eql 9 (.tmp 27) (.const (.string ⟨#[60,60]⟩)) t27 (.string ⟨#[60,60]⟩)) w (pk K) E) w fun t28 w=>
 DoX prog (aL t24 (.bool true) t28) w (pk K) fun t29 w=>
 K (.returned t29) w) (K (.returned (.bool true)) w))
theorem C7 (t0:Value)(w:World)(K:Ending→World→Prop):wpX prog 30 [] [] none (aK Tryz.f173) (topQ prog [.tmp 2] K) (aJ [t0]) [] w=qT t0 w K:=by kernel_rfl
theorem Dj {t0:Value}{w:World}{K:Ending→World→Prop}(h:qT t0 w K):Calls prog 173 #[t0] w K:=
 aA Tryz.func173 rfl rfl rfl rfl (Eq.mpr (C7 t0 w K) h)
def jK (t0 t1:Value)(w:World)(K:Ending→World→Prop):Prop:=
 DoX prog (mBox 53 t1) w (pk K) fun t3 w=>
 DoX prog (aN 42) w (pk K) fun t4 w=>
 DoX prog (mFA 53 t3 3) w (pk K) fun t9 w=>
 DoX prog (aB 2 t9) w (pk K) fun t10 w=>
 DoX prog (mBin .lss 2 t10 (.int .i64 1)) w (pk K) fun t11 w=>
 GDo t11 false (fun E=>DoX prog (mFA 53 t3 3) w (pk K) E) w fun t13 w=>
 GDo t11 false (fun E=>DoX prog (aB 2 t13) w (pk K) E) w fun t14 w=>
 GDo t11 false (fun E=>DoX prog (mBin .gtr 2 t14 (.int .i64 8191)) w (pk K) E) w fun t15 w=>
 DoX prog (aL t11 (.bool true) t15) w (pk K) fun t16 w=>
 IfX t16 (DoX prog (aG 42 #[]) w (pk K) fun t17 w=>
 DoX prog (aD 42 t4 t17) w (pk K) fun _ w=>
 RetX prog [.cell t4 42,.val (.bool false)] w K) (DoX prog (mFA 53 t3 2) w (pk K) fun t20 w=>
 DoX prog (aB 3 t20) w (pk K) fun t21 w=>
 CallX prog 208 #[t0,t21] w (pk K) fun t22 w=>
 DoX prog (mExt t22 0) w (pk K) fun t23 w=>
 DoX prog (mExt t22 1) w (pk K) fun t24 w=>
 DoX prog (aN 53) w (pk K) fun t6 w=>
 DoX prog (aD 53 t6 t23) w (pk K) fun _ w=>
 DoX prog (mUn .not t24) w (pk K) fun t26 w=>
 GDo t26 false (fun E=>DoX prog (mFA 53 t6 0) w (pk K) E) w fun t28 w=>
 GDo t26 false (fun E=>DoX prog (aB 3 t28) w (pk K) E) w fun t29 w=>
 GDo t26 false (fun E=>DoX prog (mEq .neq 3 (.tmp 29) (.const (.int .i64 1)) t29 (.int .i64 1)) w (pk K) E) w fun t30 w=>
 DoX prog (aL t26 (.bool true) t30) w (pk K) fun t31 w=>
 GDo t31 false (fun E=>DoX prog (mFA 53 t6 3) w (pk K) E) w fun t33 w=>
 GDo t31 false (fun E=>DoX prog (aB 2 t33) w (pk K) E) w fun t34 w=>
 GDo t31 false (fun E=>DoX prog (mBin .lss 2 t34 (.int .i64 0)) w (pk K) E) w fun t35 w=>
 DoX prog (aL t31 (.bool true) t35) w (pk K) fun t36 w=>
 GDo t36 false (fun E=>DoX prog (mFA 53 t6 3) w (pk K) E) w fun t38 w=>
 GDo t36 false (fun E=>DoX prog (aB 2 t38) w (pk K) E) w fun t39 w=>
 GDo t36 false (fun E=>DoX prog (mBin .gtr 2 t39 (.int .i64 65535)) w (pk K) E) w fun t40 w=>
 DoX prog (aL t36 (.bool true) t40) w (pk K) fun t41 w=>
 IfX t41 (DoX prog (aG 42 #[]) w (pk K) fun t42 w=>
 DoX prog (aD 42 t4 t42) w (pk K) fun _ w=>
 RetX prog [.cell t4 42,.val (.bool false)] w K) (DoX prog (mFA 53 t6 2) w (pk K) fun t45 w=>
 DoX prog (aB 3 t45) w (pk K) fun t46 w=>
 CallX prog 208 #[t0,t46] w (pk K) fun t47 w=>
 DoX prog (mExt t47 0) w (pk K) fun t48 w=>
 DoX prog (mExt t47 1) w (pk K) fun t49 w=>
 DoX prog (aN 53) w (pk K) fun t8 w=>
 DoX prog (aD 53 t8 t48) w (pk K) fun _ w=>
 DoX prog (mUn .not t49) w (pk K) fun t51 w=>
 GDo t51 false (fun E=>DoX prog (aB 53 t8) w (pk K) E) w fun t53 w=>
 GDo t51 false (fun E=>CallX prog 209 #[t53,(.int .i64 5),(.string ⟨#[82]⟩)] w (pk K) E) w fun t54 w=>
 GDo t51 false (fun E=>DoX prog (mUn .not t54) w (pk K) E) w fun t55 w=>
 DoX prog (aL t51 (.bool true) t55) w (pk K) fun t56 w=>
 IfX t56 (DoX prog (aG 42 #[]) w (pk K) fun t57 w=>
 DoX prog (aD 42 t4 t57) w (pk K) fun _ w=>
 RetX prog [.cell t4 42,.val (.bool false)] w K) (DoX prog (mFA 53 t8 2) w (pk K) fun t59 w=>
 DoX prog (aB 3 t59) w (pk K) fun t60 w=>
 DoX prog (mNil t0) w (pk K) fun t61 w=>
 DoX prog (mFA 144 t61 1) w (pk K) fun t62 w=>
 DoX prog (aD 3 t62 t60) w (pk K) fun _ w=>
 DoX prog (mFA 53 t3 3) w (pk K) fun t63 w=>
 DoX prog (aB 2 t63) w (pk K) fun t64 w=>
 DoX prog (mFA 53 t6 3) w (pk K) fun t65 w=>
 DoX prog (aB 2 t65) w (pk K) fun t66 w=>
 CallX prog 210 #[t64,t66] w (pk K) fun t67 w=>
 DoX prog (aD 42 t4 t67) w (pk K) fun _ w=>
 RetX prog [.cell t4 42,.val (.bool true)] w K)))
theorem zB (t0 t1:Value)(w:World)(K:Ending→World→Prop):wpX prog 68 [] [] none (aK Tryz.f174) (topQ prog [.cell 4 42,.tmp 5] K) (aJ [t0,t1]) [] w=jK t0 t1 w K:=by kernel_rfl
theorem wZ {t0 t1:Value}{w:World}{K:Ending→World→Prop}(h:jK t0 t1 w K):Calls prog 174 #[t0,t1] w K:=
 aA Tryz.func174 rfl rfl rfl rfl (Eq.mpr (zB t0 t1 w K) h)
def jF (t0 t2 t4 t6:Value)(w:World)(K:Ending→World→Prop):Prop:=
 DoX prog (mFA 53 t4 0) w (pk K) fun t16 w=>
 DoX prog (aB 3 t16) w (pk K) fun t17 w=>
 DoX prog (mEq .eql 3 (.tmp 17) (.const (.int .i64 1)) t17 (.int .i64 1)) w (pk K) fun t19 w=>
 IfX t19 (DoX prog (aB 53 t4) w (pk K) fun t22 w=>
 CallX prog 174 #[t0,t22] w (pk K) fun t23 w=>
 DoX prog (mExt t23 0) w (pk K) fun t24 w=>
 DoX prog (mExt t23 1) w (pk K) fun t25 w=>
 DoX prog (aN 42) w (pk K) fun t7 w=>
 DoX prog (aD 42 t7 t24) w (pk K) fun _ w=>
 IfX t25 (DoX prog (aB 42 t7) w (pk K) fun t27 w=>
 DoX prog (aD 42 t6 t27) w (pk K) fun _ w=>
 RetX prog [.cell t6 42] w K) (DoX prog (mFA 53 t4 3) w (pk K) fun t28 w=>
 DoX prog (aB 2 t28) w (pk K) fun t29 w=>
 CallX prog 175 #[t29] w (pk K) fun t30 w=>
 DoX prog (aD 42 t6 t30) w (pk K) fun _ w=>
 RetX prog [.cell t6 42] w K)) (DoX prog (mEq .eql 3 (.tmp 17) (.const (.int .i64 2)) t17 (.int .i64 2)) w (pk K) fun t32 w=>
 IfX t32 (DoX prog (mFA 53 t4 3) w (pk K) fun t33 w=>
 DoX prog (aB 2 t33) w (pk K) fun t34 w=>
 CallX prog 176 #[t34] w (pk K) fun t35 w=>
 DoX prog (aD 42 t6 t35) w (pk K) fun _ w=>
 RetX prog [.cell t6 42] w K) (DoX prog (mEq .eql 3 (.tmp 17) (.const (.int .i64 3)) t17 (.int .i64 3)) w (pk K) fun t37 w=>
 IfX t37 (DoX prog (mFA 53 t4 4) w (pk K) fun t38 w=>
 DoX prog (aB 9 t38) w (pk K) fun t39 w=>
 CallX prog 177 #[t39] w (pk K) fun t40 w=>
 DoX prog (aD 42 t6 t40) w (pk K) fun _ w=>
 RetX prog [.cell t6 42] w K) (DoX prog (mEq .eql 3 (.tmp 17) (.const (.int .i64 4)) t17 (.int .i64 4)) w (pk K) fun t42 w=>
 IfX t42 (DoX prog (mFA 53 t4 4) w (pk K) fun t43 w=>
 DoX prog (aB 9 t43) w (pk K) fun t44 w=>
 CallX prog 178 #[t44] w (pk K) fun t45 w=>
 DoX prog (aD 42 t6 t45) w (pk K) fun _ w=>
 RetX prog [.cell t6 42] w K) (DoX prog (mEq .eql 3 (.tmp 17) (.const (.int .i64 5)) t17 (.int .i64 5)) w (pk K) fun t47 w=>
 IfX t47 (DoX prog (mFA 53 t4 4) w (pk K) fun t48 w=>
 DoX prog (aB 9 t48) w (pk K) fun t49 w=>
 DoX prog (mEq .eql 9 (.tmp 49) (.const (.string ⟨#[110,117,108,108]⟩)) t49 (.string ⟨#[110,117,108,108]⟩)) w (pk K) fun t50 w=>
 IfX t50 (CallX prog 179 #[] w (pk K) fun t51 w=>
 DoX prog (aD 42 t6 t51) w (pk K) fun _ w=>
 RetX prog [.cell t6 42] w K) (DoX prog (mFA 53 t4 4) w (pk K) fun t52 w=>
 DoX prog (aB 9 t52) w (pk K) fun t53 w=>
 DoX prog (mEq .eql 9 (.tmp 53) (.const (.string ⟨#[116,114,117,101]⟩)) t53 (.string ⟨#[116,114,117,101]⟩)) w (pk K) fun t54 w=>
 CallX prog 180 #[t54] w (pk K) fun t55 w=>
 DoX prog (aD 42 t6 t55) w (pk K) fun _ w=>
 RetX prog [.cell t6 42] w K)) (DoX prog (mFA 53 t4 4) w (pk K) fun t56 w=>
 DoX prog (aB 9 t56) w (pk K) fun t57 w=>
 DoX prog (mEq .eql 9 (.tmp 57) (.const (.string ⟨#[91]⟩)) t57 (.string ⟨#[91]⟩)) w (pk K) fun t58 w=>
 IfX t58 (DoX prog (mBin .add 3 t2 (.int .i64 1)) w (pk K) fun t61 w=>
 CallX prog 181 #[t0,t61] w (pk K) fun t62 w=>
 DoX prog (aD 42 t6 t62) w (pk K) fun _ w=>
 RetX prog [.cell t6 42] w K) (DoX prog (mBin .add 3 t2 (.int .i64 1)) w (pk K) fun t65 w=>
 CallX prog 182 #[t0,t65] w (pk K) fun t66 w=>
 DoX prog (aD 42 t6 t66) w (pk K) fun _ w=>
 RetX prog [.cell t6 42] w K))))))
def dX (t0 t2 t4 t6:Value)(w:World)(K:Ending→World→Prop):Prop:=
 JoinX (fun J2=>
 DoX prog (mBin .geq 3 t2 (.int .i64 24)) w (pk K) fun t14 w=>
 IfX t14 (DoX prog (pU 203 (.int .i64 7)) w (pk K) fun t15 w=>
 DoX prog (iT t15) w (pk K) fun _ w=>
 J2 [] w) (J2 [] w)) (fun vs2 w=>∀_:Sg,jF t0 t2 t4 t6 w K)
def dH (t0 t1 t2:Value)(w:World)(K:Ending→World→Prop):Prop:=
 DoX prog (mBox 53 t1) w (pk K) fun t4 w=>
 DoX prog (aN 42) w (pk K) fun t6 w=>
 JoinX (fun J1=>
 DoX prog (aB 53 t4) w (pk K) fun t9 w=>
 CallX prog 173 #[t9] w (pk K) fun t10 w=>
 DoX prog (mUn .not t10) w (pk K) fun t11 w=>
 IfX t11 (DoX prog (pU 203 (.int .i64 3)) w (pk K) fun t12 w=>
 DoX prog (iT t12) w (pk K) fun _ w=>
 J1 [] w) (J1 [] w)) (fun vs1 w=>∀_:Sg,dX t0 t2 t4 t6 w K)
theorem rC (t0 t1 t2:Value)(w:World)(K:Ending→World→Prop):wpX prog 67 [(3,[]),(5,[])] [] none (aK Tryz.f150) (topQ prog [.cell 6 42] K) (aJ [t0,t1,t2]) [] w=dH t0 t1 t2 w K:=by kernel_rfl
theorem iR {t0 t1 t2:Value}{w:World}{K:Ending→World→Prop}(h:dH t0 t1 t2 w K):Calls prog 150 #[t0,t1,t2] w K:=
 aA Tryz.func150 rfl rfl rfl rfl (Eq.mpr (rC t0 t1 t2 w K) h)
def kG (t0 t1 t5 t6:Value)(w:World)(N1:List Value→World→Prop)(K:Ending→World→Prop):Prop:=
 HeldX w (fun S3 w=>
 HDo prog (fun _=>True) (mFA 42 t5 5) fun t26=>
 HDo prog S3 (aB 40 t26) fun t27=>
 HDo prog S3 (aB 53 t6) fun t29=>
 CallX prog 150 #[t0,t29,t1] w (pm1 (pm1 (pm1 (pm1 (pm1 (pm1 (pk K))))))) fun t31 w=>
 S3 w∧(DoX prog (aP 40 1 #[(0,t31)]) w (pm1 (pm1 (pm1 (pm1 (pm1 (pm1 (pk K))))))) fun t32 w=>
 S3 w∧(DoX prog (mB .append #[40,40] 40 #[false,false] #[t27,t32]) w (pm1 (pm1 (pm1 (pm1 (pm1 (pm1 (pk K))))))) fun t33 w=>
 S3 w∧(HDo prog (fun _=>True) (mFA 42 t5 5) fun t34=>
 DoX prog (aD 40 t34 t33) w (pm1 (pm1 (pm1 (pm1 (pm1 (pm1 (pk K))))))) fun _ w=>
 (N1 [] w)))))
def kH (t0 t1 t4 t5:Value)(w:World)(N1:List Value→World→Prop)(K:Ending→World→Prop):Prop:=
 CallX prog 151 #[t0] w (pk K) fun t9 w=>
 DoX prog (aN 53) w (pk K) fun t6 w=>
 DoX prog (aD 53 t6 t9) w (pk K) fun _ w=>
 DoX prog (aB 53 t6) w (pk K) fun t10 w=>
 CallX prog 209 #[t10,(.int .i64 6),(.string ⟨#[93]⟩)] w (pk K) fun t11 w=>
 IfX t11 (DoX prog (aB 42 t5) w (pk K) fun t12 w=>
 DoX prog (aD 42 t4 t12) w (pk K) fun _ w=>
 RetX prog [.cell t4 42] w K) (JoinX (fun J2=>
 DoX prog (aB 53 t6) w (pk K) fun t13 w=>
 CallX prog 173 #[t13] w (pk K) fun t14 w=>
 GDo t14 true (fun E=>E t1 w) w fun t16 w=>
 GDo t14 true (fun E=>DoX prog (mBin .lss 3 t16 (.int .i64 24)) w (pk K) E) w fun t17 w=>
 DoX prog (aL t14 t17 (.bool false)) w (pk K) fun t18 w=>
 GDo t18 true (fun E=>DoX prog (mFA 42 t5 5) w (pk K) E) w fun t20 w=>
 GDo t18 true (fun E=>DoX prog (aB 40 t20) w (pk K) E) w fun t21 w=>
 GDo t18 true (fun E=>DoX prog (mB .len #[40] 3 #[false] #[t21]) w (pk K) E) w fun t22 w=>
 GDo t18 true (fun E=>DoX prog (mBin .geq 3 t22 (.int .i64 8191)) w (pk K) E) w fun t23 w=>
 DoX prog (aL t18 t23 (.bool false)) w (pk K) fun t24 w=>
 IfX t24 (DoX prog (pU 203 (.int .i64 6)) w (pk K) fun t25 w=>
 DoX prog (iT t25) w (pk K) fun _ w=>
 J2 [] w) (J2 [] w)) (fun vs2 w=>∀_:Sg,kG t0 t1 t5 t6 w N1 K))
def fQ (t0 t1:Value)(w:World)(K:Ending→World→Prop):Prop:=
 DoX prog (aN 42) w (pk K) fun t4 w=>
 DoX prog (aG 42 #[(0,(.int .i64 6))]) w (pk K) fun t7 w=>
 DoX prog (aN 42) w (pk K) fun t5 w=>
 DoX prog (aD 42 t5 t7) w (pk K) fun _ w=>
 LoopX [] w (fun vs1 w N1=>∀_:Sg,kH t0 t1 t4 t5 w N1 K)
theorem tQ (t0 t1:Value)(w:World)(K:Ending→World→Prop):wpX prog 35 [(7,[])] [(2,[])] none (aK Tryz.f181) (topQ prog [.cell 4 42] K) (aJ [t0,t1]) [] w=fQ t0 t1 w K:=by kernel_rfl
theorem uP {t0 t1:Value}{w:World}{K:Ending→World→Prop}(h:fQ t0 t1 w K):Calls prog 181 #[t0,t1] w K:=
 aA Tryz.func181 rfl rfl rfl rfl (Eq.mpr (tQ t0 t1 w K) h)
def mC (t0 t1 t5 t6:Value)(w:World)(N1:List Value→World→Prop)(K:Ending→World→Prop):Prop:=
 HeldX w (fun S5 w=>
 HDo prog S5 (mFA 53 t6 4) fun t40=>
 HDo prog S5 (aB 9 t40) fun t41=>
 CallX prog 151 #[t0] w (pm1 (pm1 (pm1 (pm1 (pm1 (pm1 (pk K))))))) fun t44 w=>
 S5 w∧(CallX prog 150 #[t0,t44,t1] w (pm1 (pm1 (pm1 (pm1 (pm1 (pm1 (pk K))))))) fun t46 w=>
 S5 w∧(DoX prog (PQ 182 t5 t41 t46) w (pm1 (pm1 (pm1 (pm1 (pm1 (pm1 (pk K))))))) fun _ w=>
 S5 w∧(N1 [] w))))
def mM (t4 t5 t9 t68 t69 t70:Value)(w:World)(N3:List Value→World→Prop)(K:Ending→World→Prop):Prop:=
 DoX prog (mBin .lss 3 t70 t69) w (pk K) fun t71 w=>
 IfX t71 (DoX prog (mIA 39 t68 t70) w (pk K) fun t72 w=>
 DoX prog (aB 9 t72) w (pk K) fun t73 w=>
 DoX prog (mFA 42 t9 5) w (pk K) fun t74 w=>
 DoX prog (aB 40 t74) w (pk K) fun t75 w=>
 DoX prog (JI 182 t5 t73 false) w (pk K) fun t78 w=>
 DoX prog (aP 40 1 #[(0,t78)]) w (pk K) fun t79 w=>
 DoX prog (mB .append #[40,40] 40 #[false,false] #[t75,t79]) w (pk K) fun t80 w=>
 DoX prog (mFA 42 t9 5) w (pk K) fun t81 w=>
 DoX prog (aD 40 t81 t80) w (pk K) fun _ w=>
 DoX prog (mBin .add 3 t70 (.int .i64 1)) w (pk K) fun t82 w=>
 N3 [t82] w) (DoX prog (aB 42 t9) w (pk K) fun t83 w=>
 DoX prog (aD 42 t4 t83) w (pk K) fun _ w=>
 RetX prog [.cell t4 42] w K)
def fD (t4 t5 t9 t49:Value)(w:World)(N2:List Value→World→Prop)(K:Ending→World→Prop):Prop:=
 DoX prog (GS t49 false 0) w (pk K) fun t50 w=>
 DoX prog (mExt t50 0) w (pk K) fun t51 w=>
 IfX t51 (DoX prog (MR t49) w (pk K) fun t52 w=>
 DoX prog (mExt t52 0) w (pk K) fun t53 w=>
 DoX prog (mExt t52 1) w (pk K) fun t54 w=>
 DoX prog (aN 42) w (pk K) fun t11 w=>
 DoX prog (aD 42 t11 t54) w (pk K) fun _ w=>
 DoX prog (mFA 42 t11 0) w (pk K) fun t55 w=>
 DoX prog (aB 3 t55) w (pk K) fun t56 w=>
 DoX prog (mEq .neq 3 (.tmp 56) (.const (.int .i64 0)) t56 (.int .i64 0)) w (pk K) fun t57 w=>
 IfX t57 (DoX prog (mFA 42 t9 4) w (pk K) fun t58 w=>
 DoX prog (aB 39 t58) w (pk K) fun t59 w=>
 DoX prog (aP 39 1 #[(0,t53)]) w (pk K) fun t61 w=>
 DoX prog (mB .append #[39,39] 39 #[false,false] #[t59,t61]) w (pk K) fun t62 w=>
 DoX prog (mFA 42 t9 4) w (pk K) fun t63 w=>
 DoX prog (aD 39 t63 t62) w (pk K) fun _ w=>
 N2 [] w) (N2 [] w)) (DoX prog (mFA 42 t9 4) w (pk K) fun t64 w=>
 DoX prog (aB 39 t64) w (pk K) fun t65 w=>
 CallX prog 148 #[t65] w (pk K) fun t66 w=>
 DoX prog (mFA 42 t9 4) w (pk K) fun t67 w=>
 DoX prog (aB 39 t67) w (pk K) fun t68 w=>
 DoX prog (mB .len #[39] 3 #[false] #[t68]) w (pk K) fun t69 w=>
 LoopX [(.int .i64 0)] w (fun vs3 w N3=>∀_:Sg,mM t4 t5 t9 t68 t69 (vs3.getD 0 undef) w N3 K))
def mD (t0 t1 t4 t5:Value)(w:World)(N1:List Value→World→Prop)(K:Ending→World→Prop):Prop:=
 CallX prog 151 #[t0] w (pk K) fun t16 w=>
 DoX prog (aN 53) w (pk K) fun t6 w=>
 DoX prog (aD 53 t6 t16) w (pk K) fun _ w=>
 DoX prog (aB 53 t6) w (pk K) fun t17 w=>
 CallX prog 209 #[t17,(.int .i64 6),(.string ⟨#[62,62]⟩)] w (pk K) fun t18 w=>
 IfX t18 (DoX prog (aG 42 #[(0,(.int .i64 7))]) w (pk K) fun t47 w=>
 DoX prog (aN 42) w (pk K) fun t9 w=>
 DoX prog (aD 42 t9 t47) w (pk K) fun _ w=>
 DoX prog (uR 182 t5) w (pk K) fun t49 w=>
 LoopX [] w (fun vs2 w N2=>∀_:Sg,fD t4 t5 t9 t49 w N2 K)) (DoX prog (mFA 53 t6 4) w (pk K) fun t21 w=>
 DoX prog (aB 9 t21) w (pk K) fun t22 w=>
 DoX prog (JI 182 t5 t22 true) w (pk K) fun t23 w=>
 DoX prog (mExt t23 0) w (pk K) fun t24 w=>
 DoX prog (mExt t23 1) w (pk K) fun t25 w=>
 DoX prog (aN 42) w (pk K) fun t7 w=>
 DoX prog (aD 42 t7 t24) w (pk K) fun _ w=>
 JoinX (fun J4=>
 DoX prog (mFA 53 t6 0) w (pk K) fun t27 w=>
 DoX prog (aB 3 t27) w (pk K) fun t28 w=>
 DoX prog (mEq .neq 3 (.tmp 28) (.const (.int .i64 4)) t28 (.int .i64 4)) w (pk K) fun t29 w=>
 IfX t29 (DoX prog (pU 203 (.int .i64 3)) w (pk K) fun t30 w=>
 DoX prog (iT t30) w (pk K) fun _ w=>
 J4 [] w) (IfX t25 (DoX prog (pU 203 (.int .i64 9)) w (pk K) fun t33 w=>
 DoX prog (iT t33) w (pk K) fun _ w=>
 J4 [] w) (DoX prog (mB .len #[182] 3 #[false] #[t5]) w (pk K) fun t36 w=>
 DoX prog (mBin .geq 3 t36 (.int .i64 8191)) w (pk K) fun t37 w=>
 IfX t37 (DoX prog (pU 203 (.int .i64 6)) w (pk K) fun t38 w=>
 DoX prog (iT t38) w (pk K) fun _ w=>
 J4 [] w) (J4 [] w)))) (fun vs4 w=>∀_:Sg,mC t0 t1 t5 t6 w N1 K))
def gW (t0 t1:Value)(w:World)(K:Ending→World→Prop):Prop:=
 DoX prog (aN 42) w (pk K) fun t4 w=>
 DoX prog (mMap 182 none) w (pk K) fun t14 w=>
 LoopX [] w (fun vs1 w N1=>∀_:Sg,mD t0 t1 t4 t14 w N1 K)
theorem vS (t0 t1:Value)(w:World)(K:Ending→World→Prop):wpX prog 84 [(11,[])] [(2,[]),(14,[]),(20,[70])] none (aK Tryz.f182) (topQ prog [.cell 4 42] K) (aJ [t0,t1]) [] w=gW t0 t1 w K:=by kernel_rfl
theorem vG {t0 t1:Value}{w:World}{K:Ending→World→Prop}(h:gW t0 t1 w K):Calls prog 182 #[t0,t1] w K:=
 aA Tryz.func182 rfl rfl rfl rfl (Eq.mpr (vS t0 t1 w K) h)
def qA (t0 r:Value)(w:World)(K:Ending→World→Prop):Prop:=
 DoX prog (mEq .eql 20 (.tmp 5) (.const .nilIface) r .nilIface) w (pk K) fun t7 w=>
 IfX t7 (K (.returned (.tuple #[])) w) (DoX prog (mTA r 20 203 true) w (pk K) fun t8 w=>
 DoX prog (mExt t8 1) w (pk K) fun t9 w=>
 DoX prog (mExt t8 0) w (pk K) fun t10 w=>
 IfX t9 (DoX prog (mNil t0) w (pk K) fun t13 w=>
 DoX prog (aD 24 t13 t10) w (pk K) fun _ w=>
 K (.returned (.tuple #[])) w) (DoX prog (iT r) w (pk K) fun _ w=>
 K (.returned (.tuple #[])) w))
theorem Fe (t0 r:Value)(w:World)(K:Ending→World→Prop):wpX prog 14 [] [] none (RJ (aK Tryz.f149)) (topD prog [] K) (upd (aJ [t0]) 5 r) [] w=qA t0 r w K:=by kernel_rfl
theorem uT {t0:Value}{u:FrameMode}{w:World}{R:Ending→FrameMode→World→Prop}(h:qA t0 (recV u) w (fun e w=>R e (recM u) w)):CallsD prog 149 #[t0] u w R:=
 lH Tryz.func149 rfl rfl rfl rfl rfl rfl rfl rfl (Eq.mpr (Fe t0 (recV u) w _) h)
def cE (x0:Value)(x1:Value)(K:Ending→World→Prop):=pd prog [.cell x0 42,.cell x1 24] K [{ target:=.fn (.func 149) #[],args:=#[x1] }]
def iI (t0:Value)(w:World)(K:Ending→World→Prop):Prop:=
 DoX prog (aN 42) w (pk K) fun t2 w=>
 DoX prog (aN 24) w (pk K) fun t3 w=>
 CallX prog 151 #[t0] w (cE t2 t3 K) fun t6 w=>
 CallX prog 150 #[t0,t6,(.int .i64 0)] w (cE t2 t3 K) fun t7 w=>
 DoX prog (aD 42 t2 t7) w (cE t2 t3 K) fun _ w=>
 DoX prog (aD 24 t3 (.int .i64 0)) w (cE t2 t3 K) fun _ w=>
 oO prog [.cell t2 42,.cell t3 24] K [{ target:=.fn (.func 149) #[],args:=#[t3] }] .returning w
theorem wX (t0:Value)(w:World)(K:Ending→World→Prop):wpX prog 8 [] [] none (aK Tryz.f110) (topQ prog [.cell 2 42,.cell 3 24] K) (aJ [t0]) [] w=iI t0 w K:=by kernel_rfl
theorem wP {t0:Value}{w:World}{K:Ending→World→Prop}(h:iI t0 w K):Calls prog 110 #[t0] w K:=
 aA Tryz.func110 rfl rfl rfl rfl (Eq.mpr (wX t0 w K) h)
def qK (t0 t1:Value)(w:World)(K:Ending→World→Prop):Prop:=
 DoX prog (aN 42) w (pk K) fun t4 w=>
 DoX prog (mBin .lss 3 t1 (.int .i64 0)) w (pk K) fun t11 w=>
 GDo t11 false (fun E=>E t1 w) w fun t13 w=>
 GDo t11 false (fun E=>E t0 w) w fun t14 w=>
 GDo t11 false (fun E=>DoX prog (mB .len #[9] 3 #[false] #[t14]) w (pk K) E) w fun t15 w=>
 GDo t11 false (fun E=>DoX prog (mBin .gtr 3 t13 t15) w (pk K) E) w fun t16 w=>
 DoX prog (aL t11 (.bool true) t16) w (pk K) fun t17 w=>
 IfX t17 (DoX prog (aG 42 #[]) w (pk K) fun t18 w=>
 DoX prog (aD 42 t4 t18) w (pk K) fun _ w=>
 RetX prog [.cell t4 42,.val (.int .i64 0),.val (.int .i64 1)] w K) (DoX prog (aG 144 #[(0,t0),(1,t1)]) w (pk K) fun t21 w=>
 DoX prog (mBox 144 t21) w (pk K) fun t22 w=>
 CallX prog 110 #[t22] w (pk K) fun t25 w=>
 DoX prog (mExt t25 0) w (pk K) fun t26 w=>
 DoX prog (mExt t25 1) w (pk K) fun t27 w=>
 DoX prog (aN 42) w (pk K) fun t8 w=>
 DoX prog (aD 42 t8 t26) w (pk K) fun _ w=>
 DoX prog (mEq .neq 24 (.tmp 28) (.const (.int .i64 0)) t27 (.int .i64 0)) w (pk K) fun t29 w=>
 IfX t29 (DoX prog (aG 42 #[]) w (pk K) fun t30 w=>
 DoX prog (aD 42 t4 t30) w (pk K) fun _ w=>
 RetX prog [.cell t4 42,.val (.int .i64 0),.val t27] w K) (HeldX w (fun S1 w=>
 HDo prog S1 (aB 42 t8) fun t32=>
 HDo prog (fun _=>True) (mNil t22) fun t34=>
 HDo prog (fun _=>True) (mFA 144 t34 1) fun t35=>
 HDo prog S1 (aB 3 t35) fun t36=>
 DoX prog (aD 42 t4 t32) w (pm1 (pm1 (pm1 (pm1 (pm1 (pm1 (pm1 (pk K)))))))) fun _ w=>
 S1 w∧(RetX prog [.cell t4 42,.val t36,.val (.int .i64 0)] w K))))
theorem CY (t0 t1:Value)(w:World)(K:Ending→World→Prop):wpX prog 37 [] [] none (aK Tryz.f65) (topQ prog [.cell 4 42,.tmp 5,.tmp 6] K) (aJ [t0,t1]) [] w=qK t0 t1 w K:=by kernel_rfl
theorem CZ {t0 t1:Value}{w:World}{K:Ending→World→Prop}(h:qK t0 t1 w K):Calls prog 65 #[t0,t1] w K:=
 aA Tryz.func65 rfl rfl rfl rfl (Eq.mpr (CY t0 t1 w K) h)
end
section
open Eng Go.RowKit
 attribute [local congr] iA
section
variable {w:World}{PK:PKT}{K:VWP}{S:Nat→Prop}{w0:World}{L:List Ent}
theorem G1 (x:Lx.Tok)(ho:OwnS S w0 w L)(k:∀b w',OwnS S w0 w' (tokE b x::L)→K (.pointer (some ⟨b,0,none⟩)) w'):DoX prog (mBox 53 (tokV x)) w PK K:=
 dD (fun b=>.pointer (some ⟨b,0,none⟩)) (tokC x) 53 (fun _=>by kernel_rfl) ho k
theorem nI (i:Nat){b:Nat}{x y:Lx.Tok}(ho:OwnS S w0 w L)(hi:L[i]?=some (tokE b x))(k:∀w',OwnS S w0 w' (L.set i (tokE b y))→K undef w') :
  DoX prog (aD 53 (.pointer (some ⟨b,0,none⟩)) (tokV y)) w PK K:=Bq i ho hi (new:=tokC y) Tk (IL y) rfl k
theorem tk_k (ho:OwnS S w0 w L)(i:Nat){b:Nat}{x:Lx.Tok}(hi:L[i]?=some (tokE b x)):DoX prog (aB 3 (.pointer (some ⟨b,0,none⟩))) w PK K=K (.int .i64 x.k) w:=aW nInt (ho.cell i hi 0 rfl)
theorem tk_a (ho:OwnS S w0 w L)(i:Nat){b:Nat}{x:Lx.Tok}(hi:L[i]?=some (tokE b x)):DoX prog (aB 3 (.pointer (some ⟨b,1,none⟩))) w PK K=K (.int .i64 x.a) w:=aW nInt (ho.cell i hi 1 rfl)
theorem tk_t (ho:OwnS S w0 w L)(i:Nat){b:Nat}{x:Lx.Tok}(hi:L[i]?=some (tokE b x)):DoX prog (aB 3 (.pointer (some ⟨b,2,none⟩))) w PK K=K (.int .i64 x.t) w:=aW nInt (ho.cell i hi 2 rfl)
theorem tk_n (ho:OwnS S w0 w L)(i:Nat){b:Nat}{x:Lx.Tok}(hi:L[i]?=some (tokE b x)):DoX prog (aB 2 (.pointer (some ⟨b,3,none⟩))) w PK K=K (.int .i64 x.n) w:=aW nI65 (ho.cell i hi 3 rfl)
theorem tk_s (ho:OwnS S w0 w L)(i:Nat){b:Nat}{x:Lx.Tok}(hi:L[i]?=some (tokE b x)):DoX prog (aB 9 (.pointer (some ⟨b,4,none⟩))) w PK K=K (.string ⟨x.s.toArray⟩) w:=aW nStr (ho.cell i hi 4 rfl)
theorem tk_v (ho:OwnS S w0 w L)(i:Nat){b:Nat}{x:Lx.Tok}(hi:L[i]?=some (tokE b x)):DoX prog (aB 53 (.pointer (some ⟨b,0,none⟩))) w PK K=K (tokV x) w:=l_at (ho.agg i hi DJ)
theorem Ti (ho:OwnS S w0 w L)(i:Nat){b:Nat}{x:Lx.Tok}(hi:L[i]?=some (tokE b x)):(aB 3 (.pointer (some ⟨b,0,none⟩))).run prog w=.ok (.value (.int .i64 x.k)) w:=aM nInt (ho.cell i hi 0 rfl)
theorem VB (ho:OwnS S w0 w L)(i:Nat){b:Nat}{x:Lx.Tok}(hi:L[i]?=some (tokE b x)):(aB 3 (.pointer (some ⟨b,2,none⟩))).run prog w=.ok (.value (.int .i64 x.t)) w:=aM nInt (ho.cell i hi 2 rfl)
theorem VM (ho:OwnS S w0 w L)(i:Nat){b:Nat}{x:Lx.Tok}(hi:L[i]?=some (tokE b x)):(aB 2 (.pointer (some ⟨b,3,none⟩))).run prog w=.ok (.value (.int .i64 x.n)) w:=aM nI65 (ho.cell i hi 3 rfl)
theorem TR (ho:OwnS S w0 w L)(i:Nat){b:Nat}{x:Lx.Tok}(hi:L[i]?=some (tokE b x)):(aB 9 (.pointer (some ⟨b,4,none⟩))).run prog w=.ok (.value (.string ⟨x.s.toArray⟩)) w:=aM nStr (ho.cell i hi 4 rfl)
theorem ft0:fOff prog 53 0=some 0:=by kernel_rfl
theorem ft1:fOff prog 53 1=some 1:=by kernel_rfl
theorem ft2:fOff prog 53 2=some 2:=by kernel_rfl
theorem ft3:fOff prog 53 3=some 3:=by kernel_rfl
theorem ft4:fOff prog 53 4=some 4:=by kernel_rfl
theorem Bw {f:Nat}{args:Array Value}{r:Lx.Tok×Int}{PK1 PK2 PK3 PK4 PK5:PKT}{K:Value→VWP}(ho:OwnS S w0 w L)(h:Ret prog f args w (fun v w'=>v=tokR r∧Below w.heap.size w w'))
  (k:∀b w',OwnS S w0 w' (tokE b r.1::L)→K (.int .i64 r.2) (.pointer (some ⟨b,0,none⟩)) w') :
  CallX prog f args w PK1 fun t w=>DoX prog (mExt t 0) w PK2 fun u w=>DoX prog (mExt t 1) w PK3 fun v w=>DoX prog (aN 53) w PK4 fun q w=>DoX prog (aD 53 q u) w PK5 fun _ w=>K v q w:=by
 refine aS ho h ?_;rintro v w1 rfl ho;rw[tokR,x_0,x_1];refine jY ho fun b w2 ho=>?_;exact nI 0 ho rfl fun w3 ho=>k b w3 ho
end
theorem Cw (t:Lx.Tok)(w:World):Ret prog 72 #[tokV t] w (fun v w'=>v=.bool (Ps.bB t)∧Below w.heap.size w w'):=by
 refine aO fun K hK=>rM ?_;unfold eQ;refine G1 t (Own.start w) fun b w1 ho=>?_;have fin:∀{q:Bool},q=Ps.bB t→K (.returned (.bool q)) w1:=fun e=>hK _ _ ⟨by rw[e],ho.done⟩;by_cases h6:t.k=6
 ·by_cases h1:t.s=[91]
  ·simp only[rs,cS,bK,tk_k ho 0 rfl,tk_s ho 0 rfl,h6,h1,decide_true,g_un];exact fin (by simp[Ps.bB,h6,h1])
  ·simp only[rs,cS,bK,tk_k ho 0 rfl,tk_s ho 0 rfl,h6,decide_eq_false h1,decide_true,g_un];exact fin (by simp[Ps.bB,h6,h1])
 by_cases h0:t.k=0
 ·simp only[rs,cS,bK,tk_k ho 0 rfl,tk_s ho 0 rfl,h0,decide_true,decide_false,g_un,ne_eq,not_true,show ¬(0:Int)=6 by decide];exact fin (by simp[Ps.bB,h0])
 by_cases h5:t.k=5
 ·by_cases h1:t.s=Ps.tru
  ·have h1':t.s=[116,114,117,101]:=h1;simp only[rs,cS,bK,tk_k ho 0 rfl,tk_s ho 0 rfl,h5,h1',decide_true,decide_false,g_un,ne_eq,not_true,not_false_eq_true,show ¬(5:Int)=6 by decide,show ¬(5:Int)=0 by decide];exact fin (by simp[Ps.bB,h5,h1])
  have h1':¬t.s=[116,114,117,101]:=h1;by_cases h2:t.s=Ps.fal
  ·have h2':t.s=[102,97,108,115,101]:=h2;simp only[rs,cS,bK,tk_k ho 0 rfl,tk_s ho 0 rfl,h5,h2',decide_true,decide_false,g_un,ne_eq,not_true,not_false_eq_true,show ¬(5:Int)=6 by decide,show ¬(5:Int)=0 by decide,show ¬([102,97,108,115,101]:List UInt8)=[116,114,117,101] by decide];exact fin (by simp[Ps.bB,h5,h2])
  have h2':¬t.s=[102,97,108,115,101]:=h2;simp only[rs,cS,bK,tk_k ho 0 rfl,tk_s ho 0 rfl,h5,decide_eq_false h1',decide_eq_false h2',decide_true,decide_false,g_un,ne_eq,not_true,not_false_eq_true,show ¬(5:Int)=6 by decide,show ¬(5:Int)=0 by decide];exact fin (by simp[Ps.bB,h5,h1,h2];first|exact Iff.rfl|exact decide_eq_decide.2 Iff.rfl)
 ·simp only[rs,cS,bK,tk_k ho 0 rfl,tk_s ho 0 rfl,h6,h0,h5,decide_true,decide_false,g_un,ne_eq,not_true,not_false_eq_true];exact fin (by simp[Ps.bB,h6,h5,h0])
theorem Cn (t:Lx.Tok)(w:World)(h0:t.k≠0):Ret prog 173 #[tokV t] w (fun v w'=>v=.bool (Ps.bB t)∧Below w.heap.size w w'):=by
 refine aO fun K hK=>Dj ?_;unfold qT;refine G1 t (Own.start w) fun b w1 ho=>?_;have fin:∀{q:Bool},q=Ps.bB t→K (.returned (.bool q)) w1:=fun e=>hK _ _ ⟨by rw[e],ho.done⟩;by_cases h6:t.k=6
 ·by_cases h1:t.s=[91]
  ·simp only[rs,cS,bK,tk_k ho 0 rfl,tk_s ho 0 rfl,h6,h1,decide_true,g_un,show ¬(6:Int)=5 by decide,decide_false];exact fin (by simp[Ps.bB,h6,h1])
  ·simp only[rs,cS,bK,tk_k ho 0 rfl,tk_s ho 0 rfl,h6,decide_eq_false h1,decide_true,g_un,show ¬(6:Int)=5 by decide,decide_false];exact fin (by simp[Ps.bB,h6,h1])
 by_cases h5:t.k=5
 ·by_cases h1:t.s=Ps.tru
  ·have h1':t.s=[116,114,117,101]:=h1;simp only[rs,cS,bK,tk_k ho 0 rfl,tk_s ho 0 rfl,h5,h1',decide_true,decide_false,g_un];exact fin (by simp[Ps.bB,h5,h1])
  have h1':¬t.s=[116,114,117,101]:=h1;by_cases h2:t.s=Ps.fal
  ·have h2':t.s=[102,97,108,115,101]:=h2;simp only[rs,cS,bK,tk_k ho 0 rfl,tk_s ho 0 rfl,h5,h2',decide_true,decide_false,g_un,show ¬([102,97,108,115,101]:List UInt8)=[116,114,117,101] by decide];exact fin (by simp[Ps.bB,h5,h2])
  have h2':¬t.s=[102,97,108,115,101]:=h2;simp only[rs,cS,bK,tk_k ho 0 rfl,tk_s ho 0 rfl,h5,decide_eq_false h1',decide_eq_false h2',decide_true,decide_false,g_un];exact fin (by simp[Ps.bB,h5,h1,h2];first|exact Iff.rfl|exact decide_eq_decide.2 Iff.rfl)
 ·simp only[rs,cS,bK,tk_k ho 0 rfl,tk_s ho 0 rfl,h6,h5,decide_true,decide_false,g_un];exact fin (by simp[Ps.bB,h6,h5,h0])
theorem Fi (t:Lx.Tok)(k:Int)(s:List UInt8)(w:World):Ret prog 209 #[tokV t,.int .i64 k,.string ⟨s.toArray⟩] w (fun v w'=>v=.bool (decide (t.k=k)&&decide (t.s=s))∧Below w.heap.size w w'):=by
 refine aO fun K hK=>E7 ?_;unfold yO;refine G1 t (Own.start w) fun b w1 ho=>?_;by_cases h:t.k=k
 ·simp only[rs,cS,bK,tk_k ho 0 rfl,tk_s ho 0 rfl,decide_eq_true h,g_un];exact hK _ _ ⟨by rw[decide_eq_true h,Bool.true_and],ho.done⟩
 ·simp only[rs,cS,bK,tk_k ho 0 rfl,tk_s ho 0 rfl,decide_eq_false h,g_un];exact hK _ _ ⟨by rw[decide_eq_false h,Bool.false_and],ho.done⟩
theorem QG (s:List UInt8)(t:Lx.Tok)(w:World)(hs:s.length≤1099511627776):Ret prog 73 #[.string ⟨s.toArray⟩,tokV t] w
  (fun v w'=>(∃g e,v=.tuple #[.int .i64 g,.int .i64 e,.bool (Ps.ref s t).isSome]∧∀p,Ps.ref s t=some p→p=(g,e))∧Below w.heap.size w w'):=by
 refine aO fun K hK=>xM ?_;unfold jC;refine G1 t (Own.start w) fun b w1 ho=>?_;have no:∀{W:World} {L:List Ent} (g e:Int),Own w W L→Ps.ref s t=none→K (.returned (.tuple #[.int .i64 g,.int .i64 e,.bool false])) W:=fun g e ho h=>
  hK _ _ ⟨⟨g,e,by rw[h];rfl,fun p hp=>by rw[h] at hp;cases hp⟩,ho.done⟩
 by_cases h1:t.n < 1∨8191 < t.n
 ·have hr:Ps.ref s t=none:=by rw[Ps.ref,if_pos h1]
  by_cases h2:t.n < 1
  ·simp only[rs,tK,tk_n ho 0 rfl,decide_eq_true h2,g_un];exact no 0 0 ho hr
  ·have h3:8191 < t.n:=by omega
   simp only[rs,tK,tk_n ho 0 rfl,decide_eq_false h2,decide_eq_true h3,g_un];exact no 0 0 ho hr
 have h2:¬t.n < 1:=by omega
 have h3:¬8191 < t.n:=by omega
 simp only[rs,tK,xH,tk_n ho 0 rfl,tk_t ho 0 rfl,decide_eq_false h2,decide_eq_false h3,g_un];refine Bw ho (mR s t.t w1 hs) fun b2 w2 ho=>?_;by_cases h4:(Lx.next s t.t).2≠0∨(Lx.next s t.t).1.k≠1∨(Lx.next s t.t).1.n < 0∨65535 < (Lx.next s t.t).1.n
 ·have hr:Ps.ref s t=none:=by rw[Ps.ref,if_neg h1,if_pos h4]
  simp only[rs];by_cases q1:(Lx.next s t.t).2=0
  ·by_cases q2:(Lx.next s t.t).1.k=1
   ·by_cases q3:(Lx.next s t.t).1.n < 0
    ·simp only[rs,cS,tK,tk_k ho 0 rfl,tk_n ho 0 rfl,q1,q2,q3,ne_eq,not_true,decide_true,decide_false,g_un];exact no 0 0 ho hr
    ·have q4:65535 < (Lx.next s t.t).1.n:=by
      rcases h4 with h|h|h|h
      ·exact absurd q1 h
      ·exact absurd q2 h
      ·exact absurd h q3
      ·exact h
     simp only[rs,cS,tK,tk_k ho 0 rfl,tk_n ho 0 rfl,q1,q2,q3,q4,ne_eq,not_true,decide_true,decide_false,g_un];exact no 0 0 ho hr
   ·simp only[rs,cS,tK,tk_k ho 0 rfl,tk_n ho 0 rfl,q1,q2,ne_eq,not_true,not_false_eq_true,decide_true,decide_false,g_un];exact no 0 0 ho hr
  ·simp only[rs,cS,tK,tk_k ho 0 rfl,tk_n ho 0 rfl,q1,ne_eq,not_true,not_false_eq_true,decide_true,decide_false,g_un];exact no 0 0 ho hr
 have q:(Lx.next s t.t).2=0∧(Lx.next s t.t).1.k=1∧¬(Lx.next s t.t).1.n < 0∧¬65535 < (Lx.next s t.t).1.n:=by
  refine⟨?_,?_,?_,?_⟩
  ·exact Classical.not_not.1 fun h=>h4 (.inl h)
  ·exact Classical.not_not.1 fun h=>h4 (.inr (.inl h))
  ·exact fun h=>h4 (.inr (.inr (.inl h)))
  ·exact fun h=>h4 (.inr (.inr (.inr h)))
 obtain⟨q1,q2,q3,q4⟩:=q;simp only[rs,cS,xH,tK,tk_k ho 0 rfl,tk_n ho 0 rfl,tk_t ho 0 rfl,q1,q2,q3,q4,ne_eq,not_true,decide_true,decide_false,g_un];refine Bw ho (mR s (Lx.next s t.t).1.t w2 hs) fun b3 w3 ho=>?_;have hr:Ps.ref s t=if (Lx.next s (Lx.next s t.t).1.t).2=0∧(Lx.next s (Lx.next s t.t).1.t).1.k=5∧(Lx.next s (Lx.next s t.t).1.t).1.s=[82] then some ((Lx.next s t.t).1.n,(Lx.next s (Lx.next s t.t).1.t).1.t) else none:=by
  rw[Ps.ref,if_neg h1,if_neg h4]
 generalize Lx.next s (Lx.next s t.t).1.t=x at *
 refine quiet ?_;refine q_do _ (fun _=>aY ft3) (q_at _ (fun _ hb=>VM (ho.grow hb) 1 rfl) (q_do _ (fun _=>aY ft2) (q_at _ (fun _ hb=>VB (ho.grow hb) 0 rfl) (q_eq ?_))));have yes:x.2=0∧x.1.k=5∧x.1.s=[82]→∀{W:World},Below w3.heap.size w3 W→K (.returned (.tuple #[.int .i64 (Lx.next s t.t).1.n,.int .i64 x.1.t,.bool true])) W:=by
  intro h W hb;rw[if_pos h] at hr;exact hK _ _ ⟨⟨_,_,by rw[hr];rfl,fun p hp=>by rw[hr] at hp;cases hp;rfl⟩,(ho.grow hb).done⟩
 have non:¬(x.2=0∧x.1.k=5∧x.1.s=[82])→∀{W:World},Below w3.heap.size w3 W→K (.returned (.tuple #[.int .i64 (Lx.next s t.t).1.n,.int .i64 x.1.t,.bool false])) W:=by
  intro h W hb;rw[if_neg h] at hr;exact no _ _ (ho.grow hb) hr
 by_cases e1:x.2=0
 case neg=>
  simp only[decide_eq_false e1,gq,Ns];refine q_pf ?_;simp only[gq,Ns];refine q_pf fun W hb=>non (fun h=>e1 h.1) hb
 simp only[decide_eq_true e1,gq,Ns];refine q_do _ (fun _=>aY ft0) (q_at _ (fun _ hb=>Ti (ho.grow hb) 0 rfl) (q_eq (q_pt ?_)));by_cases e2:x.1.k=5
 case neg=>
  simp only[decide_eq_false e2,gq,Ns];exact q_pf fun W hb=>non (fun h=>e2 h.2.1) hb
 simp only[decide_eq_true e2,gq,Ns];refine q_do _ (fun _=>aY ft4) (q_at _ (fun _ hb=>TR (ho.grow hb) 0 rfl) (TV (q_pt ?_)));intro W hb;by_cases e3:x.1.s=[82]
 ·rw[decide_eq_true e3];exact yes ⟨e1,e2,e3⟩ hb
 ·rw[decide_eq_false e3];exact non (fun h=>e3 h.2.2) hb
end
section
open Eng Go.RowKit
section
variable {w:World}{S:Nat→Prop}{w0:World}{L:List Ent}{PK:PKT}{K:VWP}
theorem AF (o:Ob){vk vc:Value}(hk:vk.oneCell'=true)(hc:vc.oneCell'=true)(ho:OwnS S w0 w L)(k:∀b w',OwnS S w0 w' (obE b o vk vc::L)→K (.slice (some ⟨b,0,none⟩) 1 1) w'):DoX prog (aP 40 1 #[(0,obV o vk vc)]) w PK K:=by
 cases vk<;>first|(cases hk;done)|skip
 all_goals cases vc<;>first|(cases hc;done)|exact dD (fun b=>.slice (some ⟨b,0,none⟩) 1 1) (obC o _ _) 42 (fun _=>by kernel_rfl) ho k
theorem qJ (s:List UInt8)(ho:OwnS S w0 w L)(k:∀b w',OwnS S w0 w' (.cells b [.string ⟨s.toArray⟩] 9::L)→K (.slice (some ⟨b,0,none⟩) 1 1) w'):DoX prog (aP 39 1 #[(0,.string ⟨s.toArray⟩)]) w PK K:=
 dD (fun b=>.slice (some ⟨b,0,none⟩) 1 1) [.string ⟨s.toArray⟩] 9 (fun _=>by kernel_rfl) ho k
end
theorem Od (l:List (List UInt8))(i:Nat):(bR l).take (i*1)=bR (l.take i):=by rw[Nat.mul_one];simp[bR]
theorem Na (l:List (List UInt8))(i:Nat):(bR l).drop (i*1)=bR (l.drop i):=by rw[Nat.mul_one];simp[bR]
theorem oH (a b:List (List UInt8)):bR (a++b)=bR a++bR b:=by simp[bR]
theorem Ma {A:Nat→Prop}{w:World}:∀{os:List Ob} {cs:List Value} (i:Nat),OVs A w cs os→OVs A w (cs.take (i*6)) (os.take i)
|_,_,0,_=>by rw[Nat.zero_mul,List.take_zero,List.take_zero];exact OVs.nil
|[],cs,i+1,h=>by rw[OVs] at h;subst h;rw[List.take_nil,List.take_nil];exact OVs.nil
|o::os,cs,i+1,h=>by
  rw[OVs] at h;obtain⟨a,rest,rfl,hl,h1,h2⟩:=h;have e:(a++rest).take ((i+1)*6)=a++rest.take (i*6):=by
   rw[List.take_append,List.take_of_length_le (by omega)]
   congr 2
   omega
  rw[e,List.take_succ_cons,OVs];exact⟨a,_,rfl,hl,h1,Ma i h2⟩
theorem MP {A:Nat→Prop}{w:World}:∀{os:List Ob} {cs:List Value} (i:Nat),OVs A w cs os→OVs A w (cs.drop (i*6)) (os.drop i)
|_,_,0,h=>by rw[Nat.zero_mul,List.drop_zero,List.drop_zero];exact h
|[],cs,i+1,h=>by rw[OVs] at h;subst h;rw[List.drop_nil,List.drop_nil];exact OVs.nil
|o::os,cs,i+1,h=>by
  rw[OVs] at h;obtain⟨a,rest,rfl,hl,h1,h2⟩:=h;have e:(a++rest).drop ((i+1)*6)=rest.drop (i*6):=by
   rw[List.drop_append,List.drop_eq_nil_of_le (by omega),List.nil_append]
   congr 1
   omega
  rw[e,List.drop_succ_cons];exact MP i h2
end
end Go.Proofs.YtoofficgclghoaaGreatDoor

namespace Go.Proofs.YtoofficgclghoaaGreatDoor
section
open Eng Go.RowKit
theorem V4:elB prog 9 1 16=true:=by kernel_rfl
theorem elOb:elB prog 42 6 88=true:=by kernel_rfl
theorem QZ:(Tryz.prog.info? 9).map (·.size)=some 1:=by kernel_rfl
section
variable {w:World}{S:Nat→Prop}{w0:World}{L:List Ent}{PK:PKT}{K:VWP}
theorem F8 (i:Nat){v v2:Value}{n m:Nat}{xs news:List Value}{cb:Array Bool}(ho:OwnS S w0 w L)(hi:L[i]?=some (.urow 9 1 v n xs))(hs:Sl w v2 1 m news)(h1:∀u∈news,u.oneCell'=true)(hb:n+m≤1000000000000)
  (k:∀v' w',OwnS S w0 w' (L.set i (.urow 9 1 v' (n+m) (xs++news)))→K v' w'):DoX prog (mB .append #[39,39] 39 cb #[v,v2]) w PK K:=
 Bt i Tryz.underlying39 V4 (by decide) ho hi hs h1 (by omega) (by omega) k
theorem JG (i:Nat){v v2:Value}{n m:Nat}{xs news:List Value}{cb:Array Bool}(ho:OwnS S w0 w L)(hi:L[i]?=some (.urow 42 6 v n xs))(hs:Sl w v2 6 m news)(h1:∀u∈news,u.oneCell'=true)(hb:n+m≤1000000000000)
  (k:∀v' w',OwnS S w0 w' (L.set i (.urow 42 6 v' (n+m) (xs++news)))→K v' w'):DoX prog (mB .append #[40,40] 40 cb #[v,v2]) w PK K:=
 Bt i Tryz.underlying40 elOb (by decide) ho hi hs h1 (by omega) (by omega) k
end
end
section
namespace Eng
open Go.RowKit
def strK (k:List UInt8):Value:=.string ⟨k.toArray⟩
def Vm (w:World)(b:Nat)(al:List (List UInt8×Value)):Prop:=∃es clock,w.heap[b]?=some (.map es clock)∧es.toList.map (fun e=>(e.key,e.val))=al.map fun p=>(strK p.1,p.2)
def kC (al:List (List UInt8×Value))(k:List UInt8):Option Value:=(al.find? fun p=>decide (p.1=k)).map (·.2)
theorem Gj (k:List UInt8):∀(es:List MapEntry) (al:List (List UInt8×Value)) (i:Nat),es.map (fun e=>(e.key,e.val))=al.map (fun p=>(strK p.1,p.2)) →
  ∃r,Instr.findNow .string (strK k) es i=some r∧r.map (·.2)=kC al k
|[],[],i,_=>⟨none,rfl,rfl⟩
|e::es,p::al,i,h=>by
  simp only[List.map_cons,List.cons.injEq,Prod.mk.injEq] at h;obtain⟨⟨h1,h2⟩,h3⟩:=h;have hs:Instr.sameNow .string (strK k) e.key=some (decide (k=p.1)):=by
   rw[h1];show some ((⟨k.toArray⟩:ByteArray)==⟨p.1.toArray⟩)=_
   congr 1
   show (k.toArray==p.1.toArray)=_;by_cases hk:k=p.1<;>simp[hk]
  by_cases hk:k=p.1
  ·refine⟨some (i,e.val),?_,?_⟩
   ·rw[Instr.findNow,hs];simp[hk]
   ·simp[kC,hk,h2]
  ·obtain⟨r,hr1,hr2⟩:=Gj k es al (i+1) h3;refine⟨r,?_,?_⟩
   ·rw[Instr.findNow,hs];simp[hk,hr1]
   ·have hk':¬p.1=k:=fun e=>hk e.symm;rw[hr2];simp[kC,hk']
|[],_::_,_,h=>by simp at h
|_::_,[],_,h=>by simp at h
section
variable {S:Nat→Prop}{P:Program}{w w0:World}{L:List Ent}{PK:PKT}{K:VWP}
theorem zC {k:TypeId}{e:Bool}(hk:P.underlying k=some .string)(x:List UInt8):(Instr.checkKey e 10000 k (strK x)).run P w=.ok () w:=by
 show (Instr.checkKey e (9999+1) k (strK x)).run P w=_;rw[Instr.checkKey];simp[run_underlying hk,strK]
theorem EN {k:TypeId}(hk:P.underlying k=some .string)(x:List UInt8){es:List MapEntry}{al:List (List UInt8×Value)}(h:es.map (fun e=>(e.key,e.val))=al.map (fun p=>(strK p.1,p.2))) :
  ∃r,(Instr.findKey k (strK x) es).run P w=.ok r w∧r.map (·.2)=kC al x:=by
 obtain⟨r,h1,h2⟩:=Gj x es al 0 h;refine⟨r,?_,h2⟩;simp[Instr.findKey,run_underlying hk,h1]
theorem MS {T k e:TypeId}{ok:Bool}{b:Nat}{al:List (List UInt8×Value)}{z:Value}(ht:P.underlying T=some (.map k e))(hk:P.underlying k=some .string)(hz:(P.info? e).bind (·.zero)=some z)(h:Vm w b al)(x:List UInt8) :
  (JI T (.map (some b)) (strK x) ok).run P w=.ok (.value (if ok then .tuple #[(kC al x).getD z,.bool (kC al x).isSome] else (kC al x).getD z)) w:=by
 obtain⟨es,clock,h1,h2⟩:=h;obtain⟨r,r1,r2⟩:=EN (P:=P) (w:=w) hk x h2;have hz':(zeroValue e).run P w=.ok z w:=by
  obtain⟨i,hi,hzi⟩:=Option.bind_eq_some_iff.1 hz;simp[zeroValue,typeInfo,hi,hzi]
 refine cK ?_;rw[←r2];cases r with
|none=>simp[Instr.lookup,run_underlying ht,getObj,Sem.run,h1,zC hk x,r1,hz']
|some p=>
  obtain⟨i,v⟩:=p;simp[Instr.lookup,run_underlying ht,getObj,Sem.run,h1,zC hk x,r1]
end
theorem nV {al:List (List UInt8×Value)}{k:List UInt8}:kC al k=none↔k ∉ al.map (·.1):=by
 unfold kC;rw[Option.map_eq_none_iff,List.find?_eq_none];exact⟨fun h hm=>by obtain⟨p,hp,rfl⟩:=List.mem_map.1 hm;simpa using h p hp,fun h p hp hc=>h (List.mem_map.2 ⟨p,hp,by simpa using hc⟩)⟩
end Eng
end
section
open Eng Go.RowKit
theorem Sl.cellAt {w:World}{b off cap sz n:Nat}{cs:List Value}(h:Sl w (.slice (some ⟨b,off,none⟩) n cap) sz n cs):∀j u,cs[j]?=some u→w.cell? ⟨b,off+j,none⟩=some u:=by
 obtain⟨_,a,cap',e,_,h2⟩:=h
 injection e with e1 _ _
 exact fun j u hj=>(h2 _ e1.symm).2 j u hj
end
end Go.Proofs.YtoofficgclghoaaGreatDoor

namespace Go.Proofs.YtoofficgclghoaaGreatDoor
section
open Eng Go.RowKit
theorem Ue {o p:Ob}{vk vc xk xc:Value}(h:obV o vk vc=obV p xk xc):vk=xk∧vc=xc:=by
 have:(obC o vk vc).toArray=(obC p xk xc).toArray:=by injection h
 have:obC o vk vc=obC p xk xc:=by simpa using congrArg Array.toList this
 simp only[obC,List.cons.injEq,and_true] at this;exact⟨this.2.2.2.2.1,this.2.2.2.2.2⟩
theorem OV.PW {A:Nat→Prop}{w:World}{o:Ob}{vk vc:Value}(h:OV A w (obV o vk vc) o):∃cs,ObAt A w o vk vc cs:=by
 obtain⟨xk,xc,cs,e,ha⟩:=h.open;obtain⟨rfl,rfl⟩:=Ue e;exact⟨cs,ha⟩
theorem OV.oneK {A:Nat→Prop}{w:World}{o:Ob}{vk vc:Value}(h:OV A w (obV o vk vc) o):vk.oneCell'=true:=by obtain⟨cs,ha⟩:=h.PW;exact ha.keys.one
theorem OV.oneC {A:Nat→Prop}{w:World}{o:Ob}{vk vc:Value}(h:OV A w (obV o vk vc) o):vc.oneCell'=true:=by obtain⟨cs,ha⟩:=h.PW;exact ha.kids.one
section
variable {w:World}{PK:PKT}{K:VWP}{S:Nat→Prop}{w0:World}{L:List Ent}
end
end
end Go.Proofs.YtoofficgclghoaaGreatDoor










namespace Go.Proofs.YtoofficgclghoaaGreatDoor
section
open Eng Go.RowKit
namespace Eng
def Ent.two (e f:Ent):Ent:=⟨fun k=>e.blk k∨f.blk k,fun w=>e.is w∧f.is w∧∀k,e.blk k→¬f.blk k,
 fun h k=>⟨e.keep h.1 fun b hb=>k b (.inl hb),f.keep h.2.1 fun b hb=>k b (.inr hb),h.2.2⟩,fun h k hk=>hk.elim (e.lt h.1 k) (f.lt h.2.1 k)⟩
section
variable {S:Nat→Prop}{w w0:World}{L:List Ent}
theorem OwnS.split {e f:Ent}(ho:OwnS S w0 w (.two e f::L)):OwnS S w0 w (e::f::L):=by
 obtain⟨⟨he,hf,hd⟩,hb⟩:=ho.all (.two e f) (by simp);obtain⟨a1,a2⟩:=List.pairwise_cons.1 ho.apart;refine⟨ho.grew,fun x hx=>?_,List.pairwise_cons.2 ⟨fun x hx k hk=>?_,List.pairwise_cons.2 ⟨fun x hx k hk=>a1 x hx k (.inr hk),a2⟩⟩⟩
 ·rcases List.mem_cons.1 hx with rfl|hx
  ·exact⟨he,fun k hk=>hb k (.inl hk)⟩
  rcases List.mem_cons.1 hx with rfl|hx
  ·exact⟨hf,fun k hk=>hb k (.inr hk)⟩
  ·exact ho.all x (List.mem_cons_of_mem _ hx)
 ·rcases List.mem_cons.1 hx with rfl|hx
  ·exact hd k hk
  ·exact a1 x hx k (.inl hk)
end
end Eng
section
variable {P:Program}{S:World→Prop}{K:Value→Prop}
theorem iB {m:Sem Next}(v:Value)(h:∀w,S w→m.run P w=.ok (.value v) w)(k:K v):HDo P S m K:=⟨v,h,k⟩
theorem aR {m:Sem Next}(v:Value)(h:∀w,m.run P w=.ok (.value v) w)(k:K v):HDo P S m K:=⟨v,fun w _=>h w,k⟩
end
section
variable {w:World}{PK:PKT}{K:VWP}{S:Nat→Prop}{w0:World}{L:List Ent}
end
end
section
namespace Eng
open Go.RowKit
section
variable {S:Nat→Prop}{P:Program}{w w0:World}{L:List Ent}{PK:PKT}{K:VWP}
theorem OwnS.pair {e f:Ent}(ho:OwnS S w0 w (e::f::L)):OwnS S w0 w (.two e f::L):=by
 obtain⟨a1,a2⟩:=List.pairwise_cons.1 ho.apart;obtain⟨a3,a4⟩:=List.pairwise_cons.1 a2;have h1:=ho.all e (by simp);have h2:=ho.all f (by simp);refine⟨ho.grew,fun x hx=>?_,List.pairwise_cons.2 ⟨fun x hx k hk=>?_,a4⟩⟩
 ·rcases List.mem_cons.1 hx with rfl|hx
  ·exact⟨⟨h1.1,h2.1,a1 f (by simp)⟩,fun k hk=>hk.elim (h1.2 k) (h2.2 k)⟩
  ·exact ho.all x (by simp[hx])
 ·rcases hk with hk|hk
  ·exact a1 x (by simp[hx]) k hk
  ·exact a3 x hx k hk
structure Lent (P:Program) (f:Nat) (args:Array Value) (e:Ent) (M:Mem) (w:World) (ok:Prop) (e':Ent) (R:Value→Mem→Prop) (c:List PanicEntry):Prop where
 ret:ok→Ret P f args w (fun v w'=>∃N,M.le N∧R v N∧Turn (.two e (.mem M)) (.two e' (.mem N)) w w')
 pan:¬ok→Pan P f args w (fun c' w'=>c'=c∧∃e2,Turn (.two e (.mem M)) (.two e2 (.mem M)) w w')
theorem qD {f:Nat}{args:Array Value}{e e':Ent}{M:Mem}{ok:Prop}{R:Value→Mem→Prop}{c:List PanicEntry}
  (h:∀K:Ending→World→Prop,OwnS (Ent.two e (.mem M)).blk w w [e,.mem M] →
   (ok→∀(v:Value) (N:Mem) (w':World) (L:List Ent),OwnS (Ent.two e (.mem M)).blk w w' (e'::.mem N::L)→M.le N→R v N→K (.returned v) w') →
   (¬ok→∀(e2:Ent) (N:Mem) (w':World) (L:List Ent),OwnS (Ent.two e (.mem M)).blk w w' (e2::.mem N::L)→M.le N→K (.panicked c) w')→Calls P f args w K)
  (h0:(Ent.two e (.mem M)).is w):Lent P f args e M w ok e' R c:=by
 have ho:OwnS (Ent.two e (.mem M)).blk w w [e,.mem M]:=(OwnS.lend h0).split;constructor
 ·intro hk;refine aO fun K hK=>h K ho (fun _ v N w' L hw hle hr=>hK _ _ ⟨N,hle,hr,OwnS.back hw.pair⟩) fun hn=>absurd hk hn
 ·intro hn;refine Mc fun K hK=>h K ho (fun hk=>absurd hk hn) fun _ e2 N w' L hw hle=>?_;refine hK _ _ ⟨rfl,e2,?_⟩;have hb:=OwnS.back hw.pair;refine⟨hb.grew,?_,fun k hk=>hb.new k (hk.elim .inl fun hm=>.inr (hle.A k hm))⟩;obtain⟨i1,i2,i3⟩:=hb.is;exact⟨i1,Mem.UE hle i2,fun k hk hm=>i3 k hk (hle.A k hm)⟩
end
end Eng
end
section
open Eng Go.RowKit
theorem QK {α:Type}{l:List α}{i:Nat}(g:α)(hi:i≤l.length):(l.take i++g::l.drop i).take i=l.take i:=by rw[List.take_left' (by simp;omega)]
theorem Sc {α:Type}{l:List α}{i:Nat}(g:α)(hi:i≤l.length):(l.take i++g::l.drop i).drop (i+1)=l.drop i:=by
 rw[show l.take i++g::l.drop i=(l.take i++[g])++l.drop i by simp,List.drop_left' (by simp;omega)]
theorem Gp {α:Type}{l:List α}{i:Nat}(g x:α)(hi:i≤l.length):(l.take i++g::l.drop i).take i++x::(l.take i++g::l.drop i).drop (i+1)=l.take i++x::l.drop i:=by rw[QK g hi,Sc g hi]
theorem Bn {α:Type}{l:List α}{i:Nat}(g:α)(hi:i+1≤l.length):(l.take (i+1)++g::l.drop (i+1)).take (i+1)++l[i]::(l.take (i+1)++g::l.drop (i+1)).drop (i+1+1)=l.take i++l[i]::l.drop i:=by
 rw[Gp g _ hi,List.take_succ_eq_append_getElem (by omega),List.append_assoc,List.singleton_append,(List.drop_eq_getElem_cons (show i < l.length by omega)).symm]
theorem It {α:Type}{l:List α}{i:Nat}(g:α)(hi:i+1≤l.length)(h:i < (l.take (i+1)++g::l.drop (i+1)).length):(l.take (i+1)++g::l.drop (i+1))[i]=l[i]:=by
 rw[List.getElem_append_left (by simp;omega),List.getElem_take]
theorem II {A:Nat→Prop}{w:World}{os:List Ob}{cs:List Value}{x:Ob}{vk vc:Value}(h:OVs A w cs os)(hx:OV A w (obV x vk vc) x)(i:Nat):OVs A w (cs.take (i*6)++obC x vk vc++cs.drop (i*6+6)) (os.take i++x::os.drop (i+1)):=by
 have:=oJ (Ma i h) (oJ (DQ hx) (MP (i+1) h));rw[show (i+1)*6=i*6+6 by omega,←List.append_assoc] at this;exact this
abbrev keyE (v:Value)(ks:List (List UInt8)):Ent:=.urow 9 1 v ks.length (bR ks)
abbrev kidE (v:Value)(n:Nat)(cs:List Value):Ent:=.urow 42 6 v n cs
section
variable {w:World}{S:Nat→Prop}{w0:World}{L:List Ent}{PK PK2:PKT}{K:VWP}
theorem MJ {ks:List (List UInt8)}{k:List UInt8}{i:Nat}(h:i < ks.length):bR (ks.take i++k::ks.drop (i+1))=(bR ks).take (i*1)++[.string ⟨k.toArray⟩]++(bR ks).drop (i*1+1):=by
 rw[show ks.take i++k::ks.drop (i+1)=ks.take i++[k]++ks.drop (i+1) by simp,oH,oH,Od]
 congr 1
 rw[show i*1+1=(i+1)*1 by omega,Na]
theorem SL (i:Nat){g n cap:Nat}{ks:List (List UInt8)}(ho:OwnS S w0 w L)(hi:L[i]?=some (keyE (.slice (some ⟨g,0,none⟩) n cap) ks)){j:Nat}(hj:j < ks.length){k:List UInt8}
  (h:∀w',OwnS S w0 w' (L.set i (keyE (.slice (some ⟨g,0,none⟩) n cap) (ks.take j++k::ks.drop (j+1))))→K undef w') :
  DoX prog (aD 9 (.pointer (some ⟨g,j,none⟩)) (.string ⟨k.toArray⟩)) w PK K:=by
 obtain⟨g',cap',e⟩:=rB (ho.at_ i hi) (by omega);cases e;have:=Ev (PK:=PK) (K:=K) (T:=9) i ho hi (off:=j*1) (u:=.string ⟨k.toArray⟩) (new:=[.string ⟨k.toArray⟩]) rfl QZ (by simp[Value.oneCell']) (by show j*1+1≤_;omega) fun w' ho=>h w' (by
  have el:(ks.take j++k::ks.drop (j+1)).length=ks.length:=by simp;omega
  rw[keyE,el,MJ hj];exact ho)
 rwa [Nat.mul_one] at this
theorem SR (i:Nat){g n cap m:Nat}{cs:List Value}(ho:OwnS S w0 w L)(hi:L[i]?=some (kidE (.slice (some ⟨g,0,none⟩) m cap) n cs)){j:Nat}(hj:j < n){x:Ob}{vk vc:Value}(hk:vk.oneCell'=true)(hc:vc.oneCell'=true)
  (h:∀w',OwnS S w0 w' (L.set i (kidE (.slice (some ⟨g,0,none⟩) m cap) n (cs.take (j*6)++obC x vk vc++cs.drop (j*6+6))))→K undef w') :
  DoX prog (aD 42 (.pointer (some ⟨g,j*6,none⟩)) (obV x vk vc)) w PK K:=by
 obtain⟨g',cap',e⟩:=rB (ho.at_ i hi) (by omega);cases e;exact Ev i ho hi (u:=obV x vk vc) (new:=obC x vk vc) rfl szOb (oV _ hk hc) (by show j*6+6≤_;omega) fun w' ho=>h w' ho
theorem PV (i:Nat){v:Value}{ks:List (List UInt8)}(ho:OwnS S w0 w L)(hi:L[i]?=some (keyE v ks)){j:Nat}(hj:j < ks.length){k:List UInt8}
  (h:∀w',OwnS S w0 w' (L.set i (keyE v (ks.take j++k::ks.drop (j+1))))→K undef w') :
  DoX prog (mIA 39 v (.int .i64 (j:Int))) w PK fun t w=>DoX prog (aD 9 t (.string ⟨k.toArray⟩)) w PK2 K:=by
 obtain⟨g,cap,rfl⟩:=rB (ho.at_ i hi) (by omega);refine aT (nM Tryz.underlying39 QZ (by omega) (by omega)) |>.mpr ?_;rw[Int.toNat_natCast,Nat.zero_add];refine Ev i ho hi (u:=.string ⟨k.toArray⟩) (new:=[.string ⟨k.toArray⟩]) rfl QZ (by simp[Value.oneCell']) (by show j*1+1≤_;omega) fun w' ho=>h w' ?_;have el:(ks.take j++k::ks.drop (j+1)).length=ks.length:=by simp;omega
 rw[keyE,el,MJ hj];exact ho
theorem Pq (i:Nat){v:Value}{n:Nat}{cs:List Value}(ho:OwnS S w0 w L)(hi:L[i]?=some (kidE v n cs)){j:Nat}(hj:j < n){x:Ob}{vk vc:Value}(hk:vk.oneCell'=true)(hc:vc.oneCell'=true)
  (h:∀w',OwnS S w0 w' (L.set i (kidE v n (cs.take (j*6)++obC x vk vc++cs.drop (j*6+6))))→K undef w') :
  DoX prog (mIA 40 v (.int .i64 (j:Int))) w PK fun t w=>DoX prog (aD 42 t (obV x vk vc)) w PK2 K:=by
 obtain⟨g,cap,rfl⟩:=rB (ho.at_ i hi) (by omega);refine aT (nM Tryz.underlying40 szOb (by omega) (by omega)) |>.mpr ?_;rw[Int.toNat_natCast,Nat.zero_add];refine Ev i ho hi (u:=obV x vk vc) (new:=obC x vk vc) rfl szOb (oV _ hk hc) (by show j*6+6≤_;omega) fun w' ho=>h w' ho
theorem key_row (i:Nat){v:Value}{ks:List (List UInt8)}(ho:OwnS S w0 w L)(hi:L[i]?=some (keyE v ks)){j:Nat}(hj:j < ks.length):∃g cap,v=.slice (some ⟨g,0,none⟩) ks.length cap ∧
  (∀w,(mIA 39 v (.int .i64 (j:Int))).run prog w=.ok (.value (.pointer (some ⟨g,j,none⟩))) w)∧∀w',(keyE v ks).is w'→(aB 9 (.pointer (some ⟨g,j,none⟩))).run prog w'=.ok (.value (.string ⟨ks[j].toArray⟩)) w':=by
 obtain⟨g,cap,rfl⟩:=rB (ho.at_ i hi) (by omega);refine⟨g,cap,rfl,fun w=>?_,fun w' h=>?_⟩
 ·refine (nM Tryz.underlying39 QZ (by omega) (by omega)).trans ?_;rw[Int.toNat_natCast,Nat.mul_one,Nat.zero_add]
 ·obtain⟨b,off,cap',e,hc⟩:=gA (Sl.urow h) (by omega);cases e;exact aM mZ (by have:=hc j _ (eB hj);rwa [Nat.zero_add] at this)
theorem kid_row (i:Nat){v:Value}{n:Nat}{cs:List Value}{os:List Ob}{A:Nat→Prop}{W:World}(ho:OwnS S w0 w L)(hi:L[i]?=some (kidE v n cs))(hn:os.length=n)(hall:OVs A W cs os){j:Nat}(hj:j < os.length):∃g cap vk vc,v=.slice (some ⟨g,0,none⟩) n cap∧OV A W (obV os[j] vk vc) os[j] ∧
  (∀w,(mIA 40 v (.int .i64 (j:Int))).run prog w=.ok (.value (.pointer (some ⟨g,j*6,none⟩))) w)∧∀w',(kidE v n cs).is w'→(aB 42 (.pointer (some ⟨g,j*6,none⟩))).run prog w'=.ok (.value (obV os[j] vk vc)) w':=by
 obtain⟨g,cap,rfl⟩:=rB (ho.at_ i hi) (by omega);obtain⟨a,hl,hov,hget⟩:=OVs.get os cs j hj hall;obtain⟨vk,vc,xcs,he,hx⟩:=hov.open;refine⟨g,cap,vk,vc,rfl,hx.ov,fun w=>?_,fun w' h=>?_⟩
 ·refine (nM Tryz.underlying40 szOb (by omega) (by omega)).trans ?_;rw[Int.toNat_natCast,Nat.zero_add]
 ·obtain⟨b,off,cap',e,hc⟩:=gA (Sl.urow h) (by omega);cases e;rw[←he];refine bL (v:=.agg a.toArray) (AtV.agg eU hl fun m u hm=>?_);have:=hc _ _ (hget m u hm)
  rwa [Nat.zero_add] at this
end
theorem N8 (o x:Ob)(vk vc xk xc:Value)(cs:List Value)(key:List UInt8)(A:Nat→Prop)(W w:World)(hlen:o.keys.length=o.kids.length)(hall:OVs A W cs o.kids)(hx:OV A W (obV x xk xc) x)(hb:o.kids.length≤10000000000)
  (hr:Vl.Rise o.keys) (hn:key ∉ o.keys) (h0:(Ent.two (keyE vk o.keys) (kidE vc o.kids.length cs)).is w) :
  Ret prog 120 #[obV o vk vc,.string ⟨key.toArray⟩,obV x xk xc] w (fun v w'=>∃vk' vc' cs',v=obV (Vl.put o key x) vk' vc'∧OVs A W cs' (Vl.put o key x).kids ∧
   Turn (.two (keyE vk o.keys) (kidE vc o.kids.length cs)) (.two (keyE vk' (Vl.put o key x).keys) (kidE vc' (Vl.put o key x).kids.length cs')) w w'):=by
 obtain⟨_,_,e1,hxa⟩:∃a b,(a,b)=(xk,xc)∧xk.oneCell'=true∧xc.oneCell'=true:=by
  obtain⟨a,b,c,e,h⟩:=hx.open
  injection e with e
  have:=congrArg Array.toList e;simp[obC] at this;exact⟨_,_,rfl,by rw[this.1];exact h.keys.one,by rw[this.2];exact h.kids.one⟩
 refine aO fun K hK=>xO ?_;unfold jS;have ho:OwnS (Ent.two (keyE vk o.keys) (kidE vc o.kids.length cs)).blk w w [keyE vk o.keys,kidE vc o.kids.length cs]:=(OwnS.lend h0).split;generalize hS:(Ent.two (keyE vk o.keys) (kidE vc o.kids.length cs)).blk=S0 at ho;have hvk:=bJ (ho.at_ 0 rfl);have hvc:=bJ (ho.at_ 1 rfl);refine rR o hvk hvc ho fun b3 w1 ho=>?_;refine rR x hxa.1 hxa.2 ho fun b5 w2 ho=>?_;refine bU ho fun b6 w3 ho=>?_;rw[nT,dN ho 2 rfl,bF Tryz.underlying39 (ho.slU 3 rfl),nT,dN ho 2 rfl];refine qJ key ho fun nb w4 ho=>?_;refine F8 4 ho rfl (ho.sl 0 rfl 1 1 1 rfl) (by simp[Value.oneCell']) (by omega) fun vk' w5 ho=>?_;have ho:=ho.tail;have ho:OwnS S0 w w5 [obE b6 ob0 nilS nilS,obE b5 x xk xc,obE b3 o vk vc,.urow 9 1 vk' (o.keys.length+1) (bR o.keys++[.string ⟨key.toArray⟩]),kidE vc o.kids.length cs]:=ho;have hvk':=bJ (ho.at_ 3 rfl);rw[nT];refine bI 2 ho rfl (by kernel_rfl) hvk' (show 0+4 < 6 by omega) fun w6 ho=>?_;have ho:OwnS S0 w w6 [obE b6 ob0 nilS nilS,obE b5 x xk xc,obE b3 o vk' vc,.urow 9 1 vk' (o.keys.length+1) (bR o.keys++[.string ⟨key.toArray⟩]),kidE vc o.kids.length cs]:=ho;rw[mH,cX ho 2 rfl,ob_v ho 1 rfl];refine AF x hxa.1 hxa.2 ho fun nb2 w7 ho=>?_;refine JG 5 ho rfl (ho.sl 0 rfl 6 1 1 rfl) (oV _ hxa.1 hxa.2) (by omega) fun vc' w8 ho=>?_;have ho:=ho.tail;have ho:OwnS S0 w w8 [obE b6 ob0 nilS nilS,obE b5 x xk xc,obE b3 o vk' vc,.urow 9 1 vk' (o.keys.length+1) (bR o.keys++[.string ⟨key.toArray⟩]),kidE vc' (o.kids.length+1) (cs++obC x xk xc)]:=ho;have hvc':=bJ (ho.at_ 4 rfl);rw[mH];refine bI 2 ho rfl (by kernel_rfl) hvc' (show 0+5 < 6 by omega) fun w9 ho=>?_;have ek:bR o.keys++[.string ⟨key.toArray⟩]=bR (o.keys.take o.keys.length++key::o.keys.drop o.keys.length):=by simp[bR,strV]
 have ho:OwnS S0 w w9 [obE b6 ob0 nilS nilS,obE b5 x xk xc,obE b3 o vk' vc',keyE vk' (o.keys.take o.keys.length++key::o.keys.drop o.keys.length),kidE vc' (o.kids.length+1) (cs++obC x xk xc)]:=by
  have el:(o.keys.take o.keys.length++key::o.keys.drop o.keys.length).length=o.keys.length+1:=by simp
  rw[ek] at ho;rw[keyE,el];exact ho
 have hall1:OVs A W (cs++obC x xk xc) (o.kids.take o.keys.length++x::o.kids.drop o.keys.length):=by
  rw[hlen,List.take_length,List.drop_length];exact oJ hall (DQ hx)
 clear h0 hall;refine loop (fun vs w'=>∃(i:Nat) (g:List UInt8) (y:Ob) (cs':List Value),vs=[.int .i64 i]∧i≤o.keys.length∧(∀m (h:m < o.keys.length),i≤m→Vl.less key o.keys[m]=true)∧OVs A W cs' (o.kids.take i++y::o.kids.drop i) ∧
   OwnS S0 w w' [obE b6 ob0 nilS nilS,obE b5 x xk xc,obE b3 o vk' vc',keyE vk' (o.keys.take i++g::o.keys.drop i),kidE vc' (o.kids.length+1) cs']) (fun vs _=>n0 vs)
  ⟨o.keys.length,key,x,_,rfl,Nat.le_refl _,fun m h hm=>by omega,hall1,ho⟩ ?_
 clear ho hall1;rintro vs w10 ⟨i,g,y,cs',rfl,hi,hgt,hall,ho⟩ _;simp only[nL,gd];have hkl:(o.keys.take i++g::o.keys.drop i).length=o.keys.length+1:=by simp;omega
 have hcl:(o.kids.take i++y::o.kids.drop i).length=o.kids.length+1:=by simp;omega
 -- the end of the loop
 have stop:(∀m (h:m < o.keys.length),m < i→Vl.less o.keys[m] key=true)→DoX prog (mIA 39 vk' (.int .i64 (i:Int))) w10 (pk K) (fun t61 w=>
 DoX prog (aD 9 t61 (.string ⟨key.toArray⟩)) w (pk K) fun _ w=>
 DoX prog (mFA 42 (.pointer (some ⟨b3,0,none⟩)) 5) w (pk K) fun t62 w=>
 DoX prog (aB 40 t62) w (pk K) fun t63 w=>
 DoX prog (aB 42 (.pointer (some ⟨b5,0,none⟩))) w (pk K) fun t65 w=>
 DoX prog (mIA 40 t63 (.int .i64 (i:Int))) w (pk K) fun t66 w=>
 DoX prog (aD 42 t66 t65) w (pk K) fun _ w=>
 DoX prog (aB 42 (.pointer (some ⟨b3,0,none⟩))) w (pk K) fun t67 w=>
 DoX prog (aD 42 (.pointer (some ⟨b6,0,none⟩)) t67) w (pk K) fun _ w=>
 RetX prog [.cell (.pointer (some ⟨b6,0,none⟩)) 42] w K):=by
  intro hlt;have hp:Vl.place o.keys key=i:=Vl.MM hi hlt fun h=>Vl.Hr (hgt i h (Nat.le_refl _));have hh:Vl.hit o.keys key=false:=by
   unfold Vl.hit;rw[hp,decide_eq_false_iff_not];exact fun h=>hn (List.mem_of_getElem? h)
  have hput:Vl.put o key x=.mk o.k o.n o.g o.s (o.keys.take i++key::o.keys.drop i) (o.kids.take i++x::o.kids.drop i):=by
   unfold Vl.put;rw[hp,hh];rfl
  refine PV 3 ho rfl (by omega) fun w11 ho=>?_;rw[Gp g _ hi] at ho;have ho:OwnS S0 w w11 [obE b6 ob0 nilS nilS,obE b5 x xk xc,obE b3 o vk' vc',keyE vk' (o.keys.take i++key::o.keys.drop i),kidE vc' (o.kids.length+1) cs']:=ho;rw[mH,cX ho 2 rfl,ob_v ho 1 rfl];refine Pq 4 ho rfl (by omega) hxa.1 hxa.2 fun w12 ho=>?_;have hset:=II hall hx i;rw[Gp y _ (by omega)] at hset;have ho:OwnS S0 w w12 [obE b6 ob0 nilS nilS,obE b5 x xk xc,obE b3 o vk' vc',keyE vk' (o.keys.take i++key::o.keys.drop i),kidE vc' (o.kids.length+1) (cs'.take (i*6)++obC x xk xc++cs'.drop (i*6+6))]:=ho;rw[ob_v ho 2 rfl];refine bA 0 hvk' hvc' ho rfl fun w13 ho=>?_;refine iW (bC (ho.agg 0 rfl eU)) (hK _ _ ⟨vk',vc',cs'.take (i*6)++obC x xk xc++cs'.drop (i*6+6),by rw[hput];rfl,by rw[hput];exact hset,?_⟩);have ho:=ho.tail.tail.tail;have el:(Vl.put o key x).kids.length=o.kids.length+1:=by rw[hput];show (o.kids.take i++x::o.kids.drop i).length=_;simp;omega
  rw[el,show (Vl.put o key x).keys=o.keys.take i++key::o.keys.drop i by rw[hput];rfl];subst hS;exact OwnS.back ho.pair
 rcases Nat.eq_zero_or_pos i with h0|h0
 ·subst h0;simp only[rs,show decide ((0:Int) < ((0:Nat):Int))=false by decide,g_un,nT,dN ho 2 rfl];exact stop fun m _ h=>by omega
 obtain⟨j,rfl⟩:∃j,i=j+1:=⟨i - 1,by omega⟩;have hj:(0:Int) < ((j+1:Nat):Int):=by omega
 obtain⟨gk,capk,hvke,ia1,ld1⟩:=key_row 3 ho rfl (j:=j) (by omega);rw[It g hi] at ld1;have hw1:IntKind.wrap .i64 (((j+1:Nat):Int) - 1)=(j:Int):=by rw[aC (by omega) (by omega)];omega
 have iaX:∀{PK K},DoX prog (mIA 39 vk' (.int .i64 (j:Int))) w10 PK K=K (.pointer (some ⟨gk,j,none⟩)) w10:=aT (ia1 w10);have ldX:∀{PK K},DoX prog (aB 9 (.pointer (some ⟨gk,j,none⟩))) w10 PK K=K (.string ⟨(o.keys[j]'(by omega)).toArray⟩) w10:=aT (ld1 w10 (ho.at_ 3 rfl));simp only[rs,hj,decide_true,nT,dN ho 2 rfl,hw1,iaX,ldX,PH,Bool.not_not];by_cases hl:Op.bytesLess key (o.keys[j]'(by omega))=true
 case neg=>
  simp only[Bool.not_eq_true] at hl;simp only[hl,i_f];refine stop fun m hm hmi=>?_;have hne:o.keys[j]≠key:=fun e=>hn (e▸List.getElem_mem (by omega));have h1:Vl.less o.keys[j] key=true:=Vl.Cx hl fun e=>hne e.symm;rcases Nat.lt_or_ge m j with h|h
  ·exact Vl.nY (Vl.BH hr h (by omega)) h1
  ·have:m=j:=by omega
   subst this;exact h1
 simp only[hl,i_t];refine quiet ?_;refine q_do _ (fun _=>aY Pe) (q_at _ (fun _ hb=>aM Js ((ho.grow hb).cell 2 rfl 4 rfl)) ?_);refine q_do _ (fun _=>aY Pe) (q_at _ (fun _ hb=>aM Js ((ho.grow hb).cell 2 rfl 4 rfl)) ?_);refine q_do (.int .i64 (j:Int)) (fun _=>by rw[RW,hw1]) ?_;refine q_do _ (fun w=>ia1 w) (q_at _ (fun _ hb=>ld1 _ ((ho.grow hb).at_ 3 rfl)) ?_);obtain⟨gk2,capk2,hvke2,ia2,_⟩:=key_row 3 ho rfl (j:=j+1) (by omega);have hg:gk2=gk:=by rw[hvke2] at hvke;injection hvke with h;injection h with h;injection h
 subst hg;refine q_do _ (fun w=>ia2 w) fun w11 hb=>?_;have ho:=ho.grow hb;subst hvke2;refine SL 3 ho rfl (by omega) fun w12 ho=>?_;rw[Bn g hi] at ho;have ho:OwnS S0 w w12 [obE b6 ob0 nilS nilS,obE b5 x xk xc,obE b3 o _ vc',keyE _ (o.keys.take j++o.keys[j]::o.keys.drop j),kidE vc' (o.kids.length+1) cs']:=ho;obtain⟨gc,capc,yk,yc,hvce,hy,ia3,ld3⟩:=kid_row 4 ho rfl hcl hall (j:=j) (by omega);obtain⟨gc2,capc2,_,_,hvce2,_,ia4,_⟩:=kid_row 4 ho rfl hcl hall (j:=j+1) (by omega);have hg2:gc2=gc:=by rw[hvce2] at hvce;injection hvce with h;injection h with h;injection h
 subst hg2;have hgk:(o.kids.take (j+1)++y::o.kids.drop (j+1))[j]'(by omega)=o.kids[j]'(by omega):=It y (by omega) (by omega);rw[hgk] at hy ld3;have hyo:yk.oneCell'=true∧yc.oneCell'=true:=by
  obtain⟨a,b,c,e,h⟩:=hy.open
  injection e with e
  have:=congrArg Array.toList e;simp[obC] at this;exact⟨by rw[this.1];exact h.keys.one,by rw[this.2];exact h.kids.one⟩
 refine quiet ?_;refine q_do _ (fun _=>aY Lt) (q_at _ (fun _ hb=>aM BO ((ho.grow hb).cell 2 rfl 5 rfl)) ?_);refine q_do _ (fun _=>aY Lt) (q_at _ (fun _ hb=>aM BO ((ho.grow hb).cell 2 rfl 5 rfl)) ?_);refine q_do (.int .i64 (j:Int)) (fun _=>by rw[RW,hw1]) ?_;refine q_do _ (fun w=>ia3 w) (q_at _ (fun _ hb=>ld3 _ ((ho.grow hb).at_ 4 rfl)) ?_);refine q_do _ (fun w=>ia4 w) fun w13 hb=>?_;have ho:=ho.grow hb;subst hvce2;refine SR 4 ho rfl (by omega) hyo.1 hyo.2 fun w14 ho=>?_;have hset:=II hall hy (j+1);rw[Bn y (by omega)] at hset;refine bG ⟨j,o.keys[j],o.kids[j],_,rfl,by omega,fun m hm hmi=>?_,hset,ho⟩ (by show Int.toNat (j:Int) < Int.toNat ((j+1:Nat):Int);omega);rcases Nat.lt_or_ge j m with h|h
 ·exact hgt m hm h
 ·have:m=j:=by omega
  subst this;exact hl
end
section
open Eng Go.RowKit
def objR (e:Ps.R)(v:Value)(N:Mem):Prop:=∃u,v=.tuple #[u,.int .i64 e.2.1,.int .i64 e.2.2]∧OV N.A N.w u e.1
def RObj (s:List UInt8)(n:Nat):Prop:=∀(a:Int) (M:Mem) (w:World),M.has w→RetM prog 47 #[.string ⟨s.toArray⟩,.int .i64 a,.int .i64 (25 - (n:Int))] M w (objR (Ps.obj s n a))
theorem xP {A:Nat→Prop}{w:World}:OV A w (obV Vl.ob0 nilS nilS) Vl.ob0:=ObAt.ov (o:=Vl.ob0) ⟨SlA.nil _ _ _ _,SlA.nil _ _ _ _,OVs.nil⟩
section
variable {w:World}{S:Nat→Prop}{w0:World}{L:List Ent}
theorem Bg {KE:Ending→World→Prop}{PK PK2:PKT}(i:Nat){b:Nat}{o:Ob}{vk vc:Value}{e:Int}(ho:OwnS S w0 w L)(hi:L[i]?=some (obE b o vk vc))
  (k:∀w',OwnS S w0 w' (L.set i (obE b Vl.ob0 nilS nilS))→KE (.returned (.tuple #[obV Vl.ob0 nilS nilS,.int .i64 0,.int .i64 e])) w') :
  DoX prog (aG 42 #[]) w PK fun t w=>DoX prog (aD 42 (.pointer (some ⟨b,0,none⟩)) t) w PK2 fun _ w=>RetX prog [.cell (.pointer (some ⟨b,0,none⟩)) 42,.val (.int .i64 0),.val (.int .i64 e)] w KE:=by
 rw[TZ];refine bA i rfl rfl ho hi fun w' ho=>?_;have hil:i < L.length:=(List.getElem?_eq_some_iff.1 hi).1;have hi2:(L.set i (obE b Vl.ob0 nilS nilS))[i]?=some (obE b Vl.ob0 nilS nilS):=by simp[hil]
 exact BA (bC (ho.agg i hi2 eU)) dR dR (k w' ho)
end
theorem Nb (s:List UInt8)(n:Nat)(hn:n≤23)(hs:s.length≤1000000000)(hsub:RObj s n)(a:Int)(h0:0≤a)(h1:a≤s.length)(M:Mem)(w:World)(hM:M.has w) :
  RetM prog 80 #[.string ⟨s.toArray⟩,.int .i64 a,.int .i64 (24 - (n:Int))] M w (objR (Ps.arr s (decide (n≠0)) (Ps.obj s n) (s.length+1) a [])):=by
 refine uL hM fun K hK=>sV ?_;unfold fJ;have ho:=(OwnS.memS hM).nilU 42 6;refine bU ho fun b6 w1 ho=>?_;have hb6:∀{PK:PKT} {K:VWP},DoX prog (aG 42 #[(0,(.int .i64 6))]) w1 PK K=K (obV (.mk 6 0 0 [] [] []) nilS nilS) w1:=aT (by kernel_rfl);rw[hb6];refine bU ho fun b9 w2 ho=>?_;refine bA (o':=.mk 6 0 0 [] [] []) (vk':=nilS) (vc':=nilS) 0 rfl rfl ho rfl fun w3 ho=>?_;have ho:OwnS M.A w w3 [obE b9 (.mk 6 0 0 [] [] []) nilS nilS,obE b6 ob0 nilS nilS,kidE nilS 0 [],.mem M]:=ho;refine loop (fun vs w'=>∃(a':Int) (m:Nat) (acc:List Ob) (cs:List Value) (vc:Value) (N:Mem),vs=[.int .i64 a',.int .i64 0,.int .i64 0]∧0≤a'∧a'≤s.length∧(acc.length:Int)≤a'∧acc.length+m=s.length+1 ∧
   Ps.arr s (decide (n≠0)) (Ps.obj s n) m a' acc=Ps.arr s (decide (n≠0)) (Ps.obj s n) (s.length+1) a []∧M.le N∧OVs N.A N.w cs acc ∧
   OwnS M.A w w' [obE b9 (.mk 6 0 0 [] [] acc) nilS vc,obE b6 ob0 nilS nilS,kidE vc acc.length cs,.mem N]) (fun vs _=>s.length - n0 vs)
  ⟨a,s.length+1,[],[],nilS,M,rfl,h0,h1,by simpa using h0,by simp,rfl,M.le_refl,OVs.nil,ho⟩ ?_
 clear ho;rintro vs w4 ⟨a',m,acc,cs,vc,N,rfl,ha0,ha1,hla,hml,harr,hle,hall,ho⟩ _;simp only[kF,gd];obtain⟨m,rfl⟩:∃k,m=k+1:=⟨m - 1,by omega⟩;rw[Ps.arr] at harr;refine Bw ho (mR s a' w4 (by omega)) fun b10 w5 ho=>?_;have hvc:=bJ (ho.at_ 3 rfl)
 -- an error ends the loop
 have fail:∀{W:World} {L:List Ent} {N':Mem} (i j:Nat) (e:Int) {o:Ob} {vk vc:Value},OwnS M.A w W L→L[i]?=some (obE b6 o vk vc)→L[j]?=some (.mem N')→(∀x,(L.set i x)[j]?=some (.mem N'))→M.le N'→Ps.bad e=Ps.arr s (decide (n≠0)) (Ps.obj s n) (s.length+1) a [] →
   DoX prog (aG 42 #[]) W (pk K) (fun t W=>DoX prog (aD 42 (.pointer (some ⟨b6,0,none⟩)) t) W (pk K) fun _ W=>RetX prog [.cell (.pointer (some ⟨b6,0,none⟩)) 42,.val (.int .i64 0),.val (.int .i64 e)] W K):=by
  intro W L N' i j e o vk vc ho hi hj hs hle he;refine Bg i ho hi fun w' ho=>?_;refine hK _ _ N' _ j ho (hs _) hle ?_;rw[←he];exact⟨_,rfl,xP⟩
 -- behind the tests of the next token
 have one:∀{W:World} (e':Int),OwnS M.A w W [tokE b10 (Lx.next s a').1,obE b9 (.mk 6 0 0 [] [] acc) nilS vc,obE b6 ob0 nilS nilS,kidE vc acc.length cs,.mem N]→(e'≠0→Ps.bad e'=Ps.arr s (decide (n≠0)) (Ps.obj s n) (s.length+1) a []) →
   (e'=0→(if (Ps.obj s n a').2.2≠0 then Ps.bad (Ps.obj s n a').2.2 else Ps.arr s (decide (n≠0)) (Ps.obj s n) m (Ps.obj s n a').2.1 (acc++[(Ps.obj s n a').1]))=Ps.arr s (decide (n≠0)) (Ps.obj s n) (s.length+1) a []) →
   dC (.string ⟨s.toArray⟩) (.int .i64 a') (.int .i64 (24 - (n:Int))) (.pointer (some ⟨b6,0,none⟩)) (.int .i64 0) (.int .i64 0) (.pointer (some ⟨b9,0,none⟩)) (.int .i64 e') W
    (Je (fun vs w'=>∃(a':Int) (m:Nat) (acc:List Ob) (cs:List Value) (vc:Value) (N:Mem),vs=[.int .i64 a',.int .i64 0,.int .i64 0]∧0≤a'∧a'≤s.length∧(acc.length:Int)≤a'∧acc.length+m=s.length+1 ∧
   Ps.arr s (decide (n≠0)) (Ps.obj s n) m a' acc=Ps.arr s (decide (n≠0)) (Ps.obj s n) (s.length+1) a []∧M.le N∧OVs N.A N.w cs acc ∧
   OwnS M.A w w' [obE b9 (.mk 6 0 0 [] [] acc) nilS vc,obE b6 ob0 nilS nilS,kidE vc acc.length cs,.mem N]) (fun vs _=>s.length - n0 vs) [.int .i64 a',.int .i64 0,.int .i64 0] w4) K:=by
  intro W e' ho hbad hgo;unfold dC;by_cases he:e'=0
  case neg=>
   simp only[rs,he,ne_eq,not_false_eq_true,decide_true];exact fail 2 4 e' ho rfl rfl (fun _=>rfl) hle (hbad he)
  subst he;have hgo:=hgo rfl;simp only[rs,ne_eq,not_true,decide_false];rw[aC (by omega) (by omega),show (24:Int) - n+1=25 - n by omega];refine DP ho 4 rfl (hsub a' N W (ho.hasM 4 rfl)) ?_;rintro _ N2 w6 hle2 ⟨u,rfl,hu⟩ ho;have hbd:=@Ps.JS s n a';generalize Ps.obj s n a'=e at *;obtain⟨xk,xc,xcs,rfl,hx⟩:=hu.open;simp only[ex];refine bU ho fun b12 w7 ho=>?_;refine bA 0 hx.keys.one hx.kids.one ho rfl fun w8 ho=>?_;have ho:OwnS M.A w w8 [obE b12 e.1 xk xc,tokE b10 (Lx.next s a').1,obE b9 (.mk 6 0 0 [] [] acc) nilS vc,obE b6 ob0 nilS nilS,kidE vc acc.length cs,.mem N2]:=ho;simp only[rs];by_cases hz:e.2.2=0
  case neg=>
   simp only[hz,ne_eq,not_false_eq_true,decide_true,i_t];rw[if_pos hz] at hgo;exact fail 3 5 _ ho rfl rfl (fun _=>rfl) (hle.trans hle2) hgo
  simp only[hz,ne_eq,not_true,decide_false,i_f];rw[if_neg (by rw[hz];simp)] at hgo;have hbd:=hbd hz;rw[mH,cX ho 2 rfl,ob_v ho 0 rfl];refine AF e.1 hx.keys.one hx.kids.one ho fun nb w9 ho=>?_;refine JG 5 ho rfl (ho.sl 0 rfl 6 1 1 rfl) (oV _ hx.keys.one hx.kids.one) (by omega) fun vc' w10 ho=>?_;have ho:=ho.tail.tail.tail;have ho:OwnS M.A w w10 [obE b9 (.mk 6 0 0 [] [] acc) nilS vc,obE b6 ob0 nilS nilS,kidE vc' (acc.length+1) (cs++obC e.1 xk xc),.mem N2]:=ho;have hvc':=bJ (ho.at_ 2 rfl);rw[mH];refine bI 0 ho rfl (by kernel_rfl) hvc' (show 0+5 < 6 by omega) fun w11 ho=>?_;refine bG ⟨e.2.1,m,acc++[e.1],cs++obC e.1 xk xc,vc',N2,rfl,by omega,hbd.2,by simp;omega,by simp;omega,hgo,hle.trans hle2,oJ (hall.le hle2) (DQ hx.ov),?_⟩ (by show s.length - Int.toNat e.2.1 < s.length - Int.toNat a';omega);have el:(acc++[e.1]).length=acc.length+1:=by simp
  rw[el];exact ho
 generalize Lx.next s a'=x at *
 have ho:OwnS M.A w w5 [tokE b10 x.1,obE b9 (.mk 6 0 0 [] [] acc) nilS vc,obE b6 ob0 nilS nilS,kidE vc acc.length cs,.mem N]:=ho
 -- what comes if the array does not end
 have on:¬(x.2=0∧x.1.k=6∧x.1.s=[93])→(JoinX (fun J3=>
 DoX prog (mEq .eql 24 (.tmp 36) (.const (.int .i64 0)) (.int .i64 x.2) (.int .i64 0)) w5 (pk K) fun t37 w=>
 GDo t37 true (fun E=>DoX prog (mFA 42 (.pointer (some ⟨b9,0,none⟩)) 5) w (pk K) E) w fun t39 w=>
 GDo t37 true (fun E=>DoX prog (aB 40 t39) w (pk K) E) w fun t40 w=>
 GDo t37 true (fun E=>DoX prog (mB .len #[40] 3 #[false] #[t40]) w (pk K) E) w fun t41 w=>
 GDo t37 true (fun E=>DoX prog (mEq .eql 3 (.tmp 41) (.const (.int .i64 8191)) t41 (.int .i64 8191)) w (pk K) E) w fun t42 w=>
 DoX prog (aL t37 t42 (.bool false)) w (pk K) fun t43 w=>
 GDo t43 true (fun E=>DoX prog (aB 53 (.pointer (some ⟨b10,0,none⟩))) w (pk K) E) w fun t45 w=>
 GDo t43 true (fun E=>CallX prog 72 #[t45] w (pk K) E) w fun t46 w=>
 DoX prog (aL t43 t46 (.bool false)) w (pk K) fun t47 w=>
 GDo t47 true (fun E=>E (.int .i64 (24 - (n:Int))) w) w fun t49 w=>
 GDo t47 true (fun E=>DoX prog (mBin .lss 3 t49 (.int .i64 24)) w (pk K) E) w fun t50 w=>
 DoX prog (aL t47 t50 (.bool false)) w (pk K) fun t51 w=>
 IfX t51 (J3 [(.int .i64 6)] w) (J3 [(.int .i64 x.2)] w)) (fun vs3 W'=>∀_:Sg,dC (.string ⟨s.toArray⟩) (.int .i64 a') (.int .i64 (24 - (n:Int))) (.pointer (some ⟨b6,0,none⟩)) (.int .i64 0) (.int .i64 0) (.pointer (some ⟨b9,0,none⟩)) (vs3.getD 0 undef) W'
    (Je (fun vs w'=>∃(a':Int) (m:Nat) (acc:List Ob) (cs:List Value) (vc:Value) (N:Mem),vs=[.int .i64 a',.int .i64 0,.int .i64 0]∧0≤a'∧a'≤s.length∧(acc.length:Int)≤a'∧acc.length+m=s.length+1 ∧
   Ps.arr s (decide (n≠0)) (Ps.obj s n) m a' acc=Ps.arr s (decide (n≠0)) (Ps.obj s n) (s.length+1) a []∧M.le N∧OVs N.A N.w cs acc ∧
   OwnS M.A w w' [obE b9 (.mk 6 0 0 [] [] acc) nilS vc,obE b6 ob0 nilS nilS,kidE vc acc.length cs,.mem N]) (fun vs _=>s.length - n0 vs) [.int .i64 a',.int .i64 0,.int .i64 0] w4) K)):=by
  intro hno;rw[if_neg hno] at harr;refine join fun J hJ=>?_;have six:∀{W:World},OwnS M.A w W [tokE b10 x.1,obE b9 (.mk 6 0 0 [] [] acc) nilS vc,obE b6 ob0 nilS nilS,kidE vc acc.length cs,.mem N]→(x.2=0∧acc.length=8191∧Ps.bB x.1=true∧decide (n≠0)=true)→J [.int .i64 6] W:=by
   intro W ho h;rw[if_pos h] at harr;exact hJ _ _ fun _=>one 6 ho (fun _=>harr) (fun h=>absurd h (by decide))
  have non:∀{W:World},OwnS M.A w W [tokE b10 x.1,obE b9 (.mk 6 0 0 [] [] acc) nilS vc,obE b6 ob0 nilS nilS,kidE vc acc.length cs,.mem N]→¬(x.2=0∧acc.length=8191∧Ps.bB x.1=true∧decide (n≠0)=true)→J [.int .i64 x.2] W:=by
   intro W ho h;rw[if_neg h] at harr;refine hJ _ _ fun _=>one x.2 ho (fun h=>?_) (fun h=>?_)
   ·rw[if_pos h] at harr;exact harr
   ·rw[if_neg (by rw[h];simp)] at harr;exact harr
  simp only[rs];by_cases e1:x.2=0
  case neg=>
   simp only[decide_eq_false e1,rs,g_un];exact non ho fun h=>e1 h.1
  simp only[decide_eq_true e1,rs,mH,cX ho 1 rfl,bF Tryz.underlying40 (ho.slU 3 rfl)];by_cases e2:(acc.length:Int)=8191
  case neg=>
   simp only[decide_eq_false e2,rs,g_un];exact non ho fun h=>e2 (by omega)
  simp only[decide_eq_true e2,rs,tk_v ho 0 rfl];refine aS ho (R:=fun v=>v=.bool (Ps.bB x.1)) (Cw x.1 w5) ?_;rintro _ w6 rfl ho;cases e3:Ps.bB x.1 with
 |false=>
   simp only[rs,g_un];exact non ho fun h=>by rw[e3] at h;exact absurd h.2.2.1 (by decide)
 |true=>
   simp only[rs];by_cases e4:n=0
   ·have:¬(24:Int) - n < 24:=by omega
    simp only[decide_eq_false this,rs];exact non ho fun h=>by simp[e4] at h
   ·have:(24:Int) - n < 24:=by omega
    simp only[decide_eq_true this,rs];exact six ho ⟨e1,by omega,e3,decide_eq_true e4⟩
 simp only[rs];by_cases e1:x.2=0
 case neg=>
  simp only[decide_eq_false e1,rs,g_un];simp only[rs,decide_eq_false e1] at on;exact on fun h=>e1 h.1
 by_cases e2:x.1.k=6
 case neg=>
  simp only[decide_eq_true e1,rs,cS,tk_k ho 0 rfl,decide_eq_false e2,g_un];simp only[rs,decide_eq_true e1] at on;exact on fun h=>e2 h.2.1
 by_cases e3:x.1.s=[93]
 case neg=>
  simp only[decide_eq_true e1,rs,cS,tk_k ho 0 rfl,decide_eq_true e2,bK,tk_s ho 0 rfl,decide_eq_false e3,g_un];simp only[rs,decide_eq_true e1] at on;exact on fun h=>e3 h.2.2
 simp only[decide_eq_true e1,rs,cS,tk_k ho 0 rfl,decide_eq_true e2,bK,tk_s ho 0 rfl,decide_eq_true e3,g_un];rw[if_pos ⟨e1,e2,e3⟩] at harr;have ho:=ho.drew;refine⟨fun W=>(obE b9 (.mk 6 0 0 [] [] acc) nilS vc).is W∧(tokE b10 x.1).is W,⟨ho.at_ 1 rfl,ho.at_ 0 rfl⟩,?_⟩;refine iB (obV (.mk 6 0 0 [] [] acc) nilS vc) (fun W h=>bL (AtV.agg eU (cs:=obC (.mk 6 0 0 [] [] acc) nilS vc) rfl fun j u hj=>by rw[Nat.zero_add];exact aU (T:=42) h.1 hj)) ?_;refine aR _ (fun _=>aY ft2) ?_;refine iB (.int .i64 x.1.t) (fun W h=>aM nInt (aU (T:=53) (cs:=tokC x.1) (i:=2) h.2 rfl)) ?_;refine bA 2 rfl hvc ho rfl fun w6 ho=>⟨⟨ho.at_ 1 rfl,ho.at_ 0 rfl⟩,?_⟩;have ho:OwnS M.A w w6 [tokE b10 x.1,obE b9 (.mk 6 0 0 [] [] acc) nilS vc,obE b6 (.mk 6 0 0 [] [] acc) nilS vc,kidE vc acc.length cs,.mem N]:=ho;have ho:=ho.tail.tail;have ho:=ho.perm (L':=[kidE vc acc.length cs,obE b6 (.mk 6 0 0 [] [] acc) nilS vc,.mem N]) (List.Perm.swap _ _ _);obtain⟨N2,hle2,hrow,ho⟩:=OwnS.eT (L:=[obE b6 (.mk 6 0 0 [] [] acc) nilS vc,.mem N]) ho 1 rfl;refine BA (bC (ho.agg 0 rfl eU)) dR dR (hK _ _ N2 _ 1 ho rfl (hle.trans hle2) ?_);rw[←harr];exact⟨_,rfl,ObAt.ov (o:=.mk 6 0 0 [] [] acc) ⟨SlA.nil _ _ _ _,hrow,hall.le hle2⟩⟩
end
end Go.Proofs.YtoofficgclghoaaGreatDoor

namespace Go.Proofs.YtoofficgclghoaaGreatDoor
section
open Go
structure Lx where
 off:Int
 sty:List UInt8
 pre:List UInt8
 first:Int
 deriving DecidableEq
namespace Lb
end Lb
end
end Go.Proofs.YtoofficgclghoaaGreatDoor









namespace Go.Proofs.YtoofficgclghoaaGreatDoor
section
open Eng
def kO (t0 t1 t12 t13:Value)(w:World)(N1:List Value→World→Prop)(K:Ending→World→Prop):Prop:=
 DoX prog (mBin .lss 3 t13 t12) w (pk K) fun t14 w=>
 IfX t14 (QuietX w (fun C2=>
 QDo prog C2 (mIA 39 t0 t13) fun t18=>
 QDo prog C2 (aB 9 t18) fun t19=>
 QDo prog C2 (mIA 39 t1 t13) fun t22=>
 QDo prog C2 (aB 9 t22) fun t23=>
 QDo prog C2 (mEq .neq 9 (.tmp 19) (.tmp 23) t19 t23) fun t24=>
 ∀w,C2 w →
 IfX t24 (K (.returned (.bool false)) w) (DoX prog (mBin .add 3 t13 (.int .i64 1)) w (pk K) fun t25 w=>
 N1 [t25] w))) (K (.returned (.bool true)) w)
def fT (t0 t1:Value)(w:World)(K:Ending→World→Prop):Prop:=
 DoX prog (mB .len #[39] 3 #[false] #[t0]) w (pk K) fun t7 w=>
 DoX prog (mB .len #[39] 3 #[false] #[t1]) w (pk K) fun t9 w=>
 DoX prog (mEq .neq 3 (.tmp 7) (.tmp 9) t7 t9) w (pk K) fun t10 w=>
 IfX t10 (K (.returned (.bool false)) w) (DoX prog (mB .len #[39] 3 #[false] #[t0]) w (pk K) fun t12 w=>
 LoopX [(.int .i64 0)] w (fun vs1 w N1=>∀_:Sg,kO t0 t1 t12 (vs1.getD 0 undef) w N1 K))
theorem uD (t0 t1:Value)(w:World)(K:Ending→World→Prop):wpX prog 26 [] [(4,[13])] none (aK Tryz.f82) (topQ prog [.tmp 4] K) (aJ [t0,t1]) [] w=fT t0 t1 w K:=by kernel_rfl
theorem tL {t0 t1:Value}{w:World}{K:Ending→World→Prop}(h:fT t0 t1 w K):Calls prog 82 #[t0,t1] w K:=
 aA Tryz.func82 rfl rfl rfl rfl (Eq.mpr (uD t0 t1 w K) h)
end
section
open Eng Go.RowKit
theorem U8:dF prog 9=true:=by kernel_rfl
theorem Oj (va vb:Value)(la lb:List (List UInt8))(w:World)(ha:Sl w va 1 la.length (bR la))(hb:Sl w vb 1 lb.length (bR lb))(hl:la.length≤1099511627776) :
  Ret prog 82 #[va,vb] w (fun r w'=>r=.bool (decide (la=lb))∧Below w.heap.size w w'):=by
 refine aO fun K hK=>tL ?_;unfold fT;rw[bF Tryz.underlying39 ha,bF Tryz.underlying39 hb];simp only[rs];by_cases hlen:(la.length:Int)≠(lb.length:Int)
 ·simp only[decide_eq_true hlen,i_t];have hne:la≠lb:=fun e=>hlen (by rw[e]);exact hK _ _ ⟨by rw[decide_eq_false hne],(Own.start w).done⟩
 have hle:la.length=lb.length:=by omega
 simp only[decide_eq_false hlen,i_f,bF Tryz.underlying39 ha];refine loop (fun vs w'=>∃(i:Nat),vs=[.int .i64 i]∧i≤la.length∧la.take i=lb.take i∧Own w w' []) (fun vs _=>la.length - n0 vs) ⟨0,rfl,by omega,by simp,Own.start w⟩ ?_;rintro vs w2 ⟨i,rfl,hi,he,ho⟩ _;simp only[kO,gd,rs];by_cases hlt:(i:Int) < (la.length:Int)
 ·have h1:i < la.length:=by omega
  have h2:i < lb.length:=by omega
  simp only[hlt,decide_true,rs];obtain⟨ba,oa,ca,rfl,hca⟩:=gA ha (by omega);obtain⟨bb,ob,cb,rfl,hcb⟩:=gA hb (by omega);refine quiet (q_do _ (fun _=>nM Tryz.underlying39 (show _=some 1 by kernel_rfl) (by omega) (by omega)) ?_);refine q_at (.string ⟨(la[i]).toArray⟩) (fun wc hw=>aM U8 ((ho.grow hw).old ?_)) ?_
  ·rw[Int.toNat_natCast,Nat.mul_one];exact hca i _ (eB h1)
  refine q_do _ (fun _=>nM Tryz.underlying39 (show _=some 1 by kernel_rfl) (by omega) (by omega)) ?_;refine q_at (.string ⟨(lb[i]).toArray⟩) (fun wc hw=>aM U8 ((ho.grow hw).old ?_)) ?_
  ·rw[Int.toNat_natCast,Nat.mul_one];exact hcb i _ (eB h2)
  refine TB ?_;intro w3 hw;have ho:=ho.grow hw;by_cases hq:la[i]=lb[i]
  ·simp only[hq,ne_eq,not_true,decide_false,i_f,rs];rw[aC (by omega) (by omega)];refine bG ⟨i+1,rfl,by omega,?_,ho⟩ (by simp[n0,RowKit.intOf];omega);rw[List.take_succ_eq_append_getElem h1,List.take_succ_eq_append_getElem h2,he,hq]
  ·simp only[hq,ne_eq,not_false_eq_true,decide_true,i_t];have hne:la≠lb:=fun e=>hq (by subst e;rfl);exact hK _ _ ⟨by rw[decide_eq_false hne],ho.done⟩
 ·simp only[hlt,decide_false,rs,g_un];have hab:la=lb:=by
   rw[List.take_of_length_le (by omega),List.take_of_length_le (by omega)] at he;exact he
  exact hK _ _ ⟨by rw[decide_eq_true hab],ho.done⟩
end
section
open Eng
def gS (t0 t1:Value)(w:World)(K:Ending→World→Prop):Prop:=
 DoX prog (mBox 42 t0) w (pk K) fun t2 w=>
 DoX prog (mBox 42 t1) w (pk K) fun t3 w=>
 DoX prog (mFA 42 t2 0) w (pk K) fun t5 w=>
 DoX prog (aB 3 t5) w (pk K) fun t6 w=>
 DoX prog (mFA 42 t3 0) w (pk K) fun t7 w=>
 DoX prog (aB 3 t7) w (pk K) fun t8 w=>
 DoX prog (mEq .eql 3 (.tmp 6) (.tmp 8) t6 t8) w (pk K) fun t9 w=>
 GDo t9 true (fun E=>DoX prog (mFA 42 t2 1) w (pk K) E) w fun t11 w=>
 GDo t9 true (fun E=>DoX prog (aB 2 t11) w (pk K) E) w fun t12 w=>
 GDo t9 true (fun E=>DoX prog (mFA 42 t3 1) w (pk K) E) w fun t13 w=>
 GDo t9 true (fun E=>DoX prog (aB 2 t13) w (pk K) E) w fun t14 w=>
 GDo t9 true (fun E=>DoX prog (mEq .eql 2 (.tmp 12) (.tmp 14) t12 t14) w (pk K) E) w fun t15 w=>
 DoX prog (aL t9 t15 (.bool false)) w (pk K) fun t16 w=>
 GDo t16 true (fun E=>DoX prog (mFA 42 t2 2) w (pk K) E) w fun t18 w=>
 GDo t16 true (fun E=>DoX prog (aB 3 t18) w (pk K) E) w fun t19 w=>
 GDo t16 true (fun E=>DoX prog (mFA 42 t3 2) w (pk K) E) w fun t20 w=>
 GDo t16 true (fun E=>DoX prog (aB 3 t20) w (pk K) E) w fun t21 w=>
 GDo t16 true (fun E=>DoX prog (mEq .eql 3 (.tmp 19) (.tmp 21) t19 t21) w (pk K) E) w fun t22 w=>
 DoX prog (aL t16 t22 (.bool false)) w (pk K) fun t23 w=>
 GDo t23 true (fun E=>DoX prog (mFA 42 t2 3) w (pk K) E) w fun t25 w=>
 GDo t23 true (fun E=>DoX prog (aB 9 t25) w (pk K) E) w fun t26 w=>
 GDo t23 true (fun E=>DoX prog (mFA 42 t3 3) w (pk K) E) w fun t27 w=>
 GDo t23 true (fun E=>DoX prog (aB 9 t27) w (pk K) E) w fun t28 w=>
 GDo t23 true (fun E=>DoX prog (mEq .eql 9 (.tmp 26) (.tmp 28) t26 t28) w (pk K) E) w fun t29 w=>
 DoX prog (aL t23 t29 (.bool false)) w (pk K) fun t30 w=>
 GDo t30 true (fun E=>DoX prog (mFA 42 t2 4) w (pk K) E) w fun t32 w=>
 GDo t30 true (fun E=>DoX prog (aB 39 t32) w (pk K) E) w fun t33 w=>
 GDo t30 true (fun E=>DoX prog (mFA 42 t3 4) w (pk K) E) w fun t34 w=>
 GDo t30 true (fun E=>DoX prog (aB 39 t34) w (pk K) E) w fun t35 w=>
 GDo t30 true (fun E=>CallX prog 82 #[t33,t35] w (pk K) E) w fun t36 w=>
 DoX prog (aL t30 t36 (.bool false)) w (pk K) fun t37 w=>
 GDo t37 true (fun E=>DoX prog (mFA 42 t2 5) w (pk K) E) w fun t39 w=>
 GDo t37 true (fun E=>DoX prog (aB 40 t39) w (pk K) E) w fun t40 w=>
 GDo t37 true (fun E=>DoX prog (mFA 42 t3 5) w (pk K) E) w fun t41 w=>
 GDo t37 true (fun E=>DoX prog (aB 40 t41) w (pk K) E) w fun t42 w=>
 GDo t37 true (fun E=>CallX prog 24 #[t40,t42] w (pk K) E) w fun t43 w=>
 DoX prog (aL t37 t43 (.bool false)) w (pk K) fun t44 w=>
 K (.returned t44) w
theorem wM (t0 t1:Value)(w:World)(K:Ending→World→Prop):wpX prog 45 [] [] none (aK Tryz.f48) (topQ prog [.tmp 4] K) (aJ [t0,t1]) [] w=gS t0 t1 w K:=by kernel_rfl
theorem vD {t0 t1:Value}{w:World}{K:Ending→World→Prop}(h:gS t0 t1 w K):Calls prog 48 #[t0,t1] w K:=
 aA Tryz.func48 rfl rfl rfl rfl (Eq.mpr (wM t0 t1 w K) h)
def lR (t0 t1 t12 t13:Value)(w:World)(N1:List Value→World→Prop)(K:Ending→World→Prop):Prop:=
 DoX prog (mBin .lss 3 t13 t12) w (pk K) fun t14 w=>
 IfX t14 (QuietX w (fun C2=>
 QDo prog C2 (mIA 40 t0 t13) fun t18=>
 QDo prog C2 (aB 42 t18) fun t19=>
 QDo prog C2 (mIA 40 t1 t13) fun t22=>
 QDo prog C2 (aB 42 t22) fun t23=>
 QCall prog C2 48 #[t19,t23] fun t24=>
 QDo prog C2 (mUn .not t24) fun t25=>
 ∀w,C2 w →
 IfX t25 (K (.returned (.bool false)) w) (DoX prog (mBin .add 3 t13 (.int .i64 1)) w (pk K) fun t26 w=>
 N1 [t26] w))) (K (.returned (.bool true)) w)
def gP (t0 t1:Value)(w:World)(K:Ending→World→Prop):Prop:=
 DoX prog (mB .len #[40] 3 #[false] #[t0]) w (pk K) fun t7 w=>
 DoX prog (mB .len #[40] 3 #[false] #[t1]) w (pk K) fun t9 w=>
 DoX prog (mEq .neq 3 (.tmp 7) (.tmp 9) t7 t9) w (pk K) fun t10 w=>
 IfX t10 (K (.returned (.bool false)) w) (DoX prog (mB .len #[40] 3 #[false] #[t0]) w (pk K) fun t12 w=>
 LoopX [(.int .i64 0)] w (fun vs1 w N1=>∀_:Sg,lR t0 t1 t12 (vs1.getD 0 undef) w N1 K))
theorem vL (t0 t1:Value)(w:World)(K:Ending→World→Prop):wpX prog 27 [] [(4,[13])] none (aK Tryz.f24) (topQ prog [.tmp 4] K) (aJ [t0,t1]) [] w=gP t0 t1 w K:=by kernel_rfl
theorem wU {t0 t1:Value}{w:World}{K:Ending→World→Prop}(h:gP t0 t1 w K):Calls prog 24 #[t0,t1] w K:=
 aA Tryz.func24 rfl rfl rfl rfl (Eq.mpr (vL t0 t1 w K) h)
end
end Go.Proofs.YtoofficgclghoaaGreatDoor



namespace Go.Proofs.YtoofficgclghoaaGreatDoor
section
open Eng Go.RowKit
namespace Ob
 mutual
def eqb:Ob→Ob→Bool
|.mk k n g s ks cs,b=>decide (k=b.k)&&decide (n=b.n)&&decide (g=b.g)&&decide (s=b.s)&&decide (ks=b.keys)&&eqbs cs b.kids
def eqbs:List Ob→List Ob→Bool
|[],[]=>true
|a::l,b::m=>eqb a b&&eqbs l m
|[],_::_=>false
|_::_,[]=>false
end
 mutual
theorem Uk:∀a b:Ob,eqb a b=true↔a=b
|.mk k n g s ks cs,.mk k' n' g' s' ks' cs'=>by
  have ih:=EG cs cs';rw[eqb];simp only[Bool.and_eq_true,decide_eq_true_eq];simp only[Ob.k,Ob.n,Ob.g,Ob.s,Ob.keys,Ob.kids,ih,Ob.mk.injEq,and_assoc]
theorem EG:∀a b:List Ob,eqbs a b=true↔a=b
|[],[]=>by simp[eqbs]
|a::l,b::m=>by
  rw[eqbs,Bool.and_eq_true,Uk a b,EG l m];simp
|[],_::_=>by simp[eqbs]
|_::_,[]=>by simp[eqbs]
end
theorem UJ (a b:Ob):eqb a b=(decide (a.k=b.k)&&decide (a.n=b.n)&&decide (a.g=b.g)&&decide (a.s=b.s)&&decide (a.keys=b.keys)&&eqbs a.kids b.kids):=by cases a;rw[eqb];rfl
theorem Qv {a b:List Ob}{i:Nat}(h1:i < a.length)(h2:i < b.length):eqbs (a.drop i) (b.drop i)=(eqb a[i] b[i]&&eqbs (a.drop (i+1)) (b.drop (i+1))):=by
 rw[List.drop_eq_getElem_cons h1,List.drop_eq_getElem_cons h2,eqbs]
theorem QU:∀{a b:List Ob},a.length≠b.length→eqbs a b=false:=by
 intro a b h;cases he:eqbs a b with
|false=>rfl
|true=>rw[EG] at he;exact absurd (by rw[he]) h
end Ob
theorem KA {a b:Ob}{ka va kb vb:Value}{ca cb:List Value}(w:World)(ha:ObAt (InW w) w a ka va ca)(hb:ObAt (InW w) w b kb vb cb)(hl:a.kids.length≤1000000000)
  (ih:∀(i:Nat) (h1:i < a.kids.length) (h2:i < b.kids.length) (x y:Value) (W:World),OV (InW W) W x a.kids[i]→OV (InW W) W y b.kids[i]→Ret prog 48 #[x,y] W (fun v w'=>v=.bool (Ob.eqb a.kids[i] b.kids[i])∧Below W.heap.size W w')) :
  Ret prog 24 #[va,vb] w (fun v w'=>v=.bool (Ob.eqbs a.kids b.kids)∧Below w.heap.size w w'):=by
 refine aO fun K hK=>wU ?_;unfold gP;rw[bF Tryz.underlying40 ha.kids.1,bF Tryz.underlying40 hb.kids.1];simp only[rs];by_cases hlen:(a.kids.length:Int)≠(b.kids.length:Int)
 ·simp only[decide_eq_true hlen,i_t];exact hK _ _ ⟨by rw[Ob.QU (by omega)],(Own.start w).done⟩
 have hle:a.kids.length=b.kids.length:=by omega
 simp only[decide_eq_false hlen,i_f,bF Tryz.underlying40 ha.kids.1];refine loop (fun vs w'=>∃(i:Nat),vs=[.int .i64 i]∧i≤a.kids.length∧Ob.eqbs a.kids b.kids=Ob.eqbs (a.kids.drop i) (b.kids.drop i)∧Own w w' []) (fun vs _=>a.kids.length - n0 vs) ⟨0,rfl,by omega,by simp,Own.start w⟩ ?_;rintro vs w2 ⟨i,rfl,hi,he,ho⟩ _;simp only[lR,gd,rs];by_cases hlt:(i:Int) < (a.kids.length:Int)
 ·have h1:i < a.kids.length:=by omega
  have h2:i < b.kids.length:=by omega
  simp only[hlt,decide_true,rs];obtain⟨x,p,hx,hrx⟩:=Qx ha h1;obtain⟨y,q,hy,hry⟩:=Qx hb h2;refine quiet (q_at _ (fun W hW=>(hrx W (OwnS.keptIn (ho.grow hW))).1) ?_);refine q_at _ (fun W hW=>(hrx W (OwnS.keptIn (ho.grow hW))).2) ?_;refine q_at _ (fun W hW=>(hry W (OwnS.keptIn (ho.grow hW))).1) ?_;refine q_at _ (fun W hW=>(hry W (OwnS.keptIn (ho.grow hW))).2) ?_;refine oP _ (fun W hW=>EE (ih i h1 h2 x y W (hx.at_ (ho.grow hW)) (hy.at_ (ho.grow hW))) hW) ?_;refine q_do _ (fun W=>cK (by simp[Op.unary];rfl)) ?_;intro w3 hw;have ho:=ho.grow hw;rw[Ob.Qv h1 h2] at he;cases hq:Ob.eqb a.kids[i] b.kids[i] with
 |true=>
   simp only[Bool.not_true,i_f,rs];rw[aC (by omega) (by omega)];refine bG ⟨i+1,rfl,by omega,?_,ho⟩ (by simp[n0,RowKit.intOf];omega);rw[he,hq];rfl
 |false=>
   simp only[Bool.not_false,i_t];exact hK _ _ ⟨by rw[he,hq];rfl,ho.done⟩
 ·simp only[hlt,decide_false,rs];refine hK _ _ ⟨?_,ho.done⟩;rw[he,List.drop_eq_nil_of_le (by omega),List.drop_eq_nil_of_le (by omega),Ob.eqbs]
theorem Oq (n:Nat):∀(a b:Ob) (x y:Value) (w:World),a.wt≤n→a.wt≤1000000000→OV (InW w) w x a→OV (InW w) w y b→Ret prog 48 #[x,y] w (fun v w'=>v=.bool (Ob.eqb a b)∧Below w.heap.size w w'):=by
 induction n with
|zero=>intro a b x y w h;have:=a.zE;omega
|succ n ih=>
 intro a b x y w hn hw hx hy;obtain⟨ka,va,ca,rfl,ha⟩:=hx.open;obtain⟨kb,vb,cb,rfl,hb⟩:=hy.open;have hww:Ob.wts a.kids≤1000000000:=by cases a;rw[Ob.wt] at hw;simp only[Ob.kids];omega
 have hkt:Pl.tot a.keys≤1000000000:=by cases a;rw[Ob.wt] at hw;simp only[Ob.keys];omega
 have hlk:=Ob.Ga a.kids;rw[Ob.UJ];refine aO fun K hK=>vD ?_;unfold gS;refine rR a ha.keys.one ha.kids.one (Own.start w) fun p w1 ho=>?_;refine rR b hb.keys.one hb.kids.one ho fun q w2 ho=>?_;rw[oG,ob_k ho 1 rfl,oG,ob_k ho 0 rfl];by_cases h1:a.k=b.k
 case neg=>simp only[rs,h1,decide_false,Bool.false_and] at hK ⊢;exact hK _ _ ⟨rfl,ho.done⟩
 simp only[rs,h1,decide_true,IQ,ob_n ho 1 rfl,ob_n ho 0 rfl,Bool.true_and] at hK ⊢;by_cases h2:a.n=b.n
 case neg=>simp only[rs,h2,decide_false,Bool.false_and] at hK ⊢;exact hK _ _ ⟨rfl,ho.done⟩
 simp only[rs,h2,decide_true,QQ,ob_g ho 1 rfl,ob_g ho 0 rfl,Bool.true_and] at hK ⊢;by_cases h3:a.g=b.g
 case neg=>simp only[rs,h3,decide_false,Bool.false_and] at hK ⊢;exact hK _ _ ⟨rfl,ho.done⟩
 simp only[rs,h3,decide_true,K8,ob_s ho 1 rfl,ob_s ho 0 rfl,Bool.true_and] at hK ⊢;by_cases h4:a.s=b.s
 case neg=>simp only[rs,h4,decide_false,Bool.false_and] at hK ⊢;exact hK _ _ ⟨rfl,ho.done⟩
 simp only[rs,h4,decide_true,nT,dN ho 1 rfl,dN ho 0 rfl,Bool.true_and] at hK ⊢;have hkl:=Pl.Cm a.keys;refine dE (Oj ka kb a.keys b.keys w2 (ho.Sv ha.keys.1) (ho.Sv hb.keys.1) (by omega)) rfl ho fun w3 ho=>?_;by_cases h5:a.keys=b.keys
 case neg=>simp only[rs,h5,decide_false,Bool.false_and] at hK ⊢;exact hK _ _ ⟨rfl,ho.done⟩
 simp only[rs,h5,decide_true,mH,cX ho 1 rfl,cX ho 0 rfl,Bool.true_and] at hK ⊢;refine dE (KA w3 (ha.in_ ho) (hb.in_ ho) (by omega) ?_) rfl ho fun w4 ho=>?_
 ·intro i hi hj x y W hx hy;have:=AG hi;exact ih _ _ x y W (by omega) (by omega) hx hy
 exact hK _ _ ⟨rfl,ho.done⟩
end
end Go.Proofs.YtoofficgclghoaaGreatDoor





namespace Go.Proofs.YtoofficgclghoaaGreatDoor
section
open Go
namespace Vl
theorem Hj {d:Nat}:∀{os:List Ob},pS d os=0↔∀o∈os,check d o=0
|[]=>by simp[pS]
|o::os=>by
  rw[pS];split
  ·rename_i h
   constructor
   ·intro e;exact absurd e h
   ·intro e;exact absurd (e o List.mem_cons_self) h
  ·rename_i h
   have h:=Classical.not_not.1 h;rw[Hj];simp[h]
theorem Rt (l:List (List UInt8)){i:Nat}(h:i < l.length):l.getD i []=l[i]:=by rw[List.getD_eq_getElem?_getD,List.getElem?_eq_getElem h];rfl
theorem Hi {o:Ob}:rising o=true↔o.keys.length=o.kids.length∧Rise o.keys∧(∀k∈o.keys,name k=true∧(o.k=9→k≠lenK))∧∀c∈o.kids,c.k≠0:=by
 unfold rising;simp only[Bool.and_eq_true,decide_eq_true_eq,List.all_eq_true,List.mem_range];constructor
 ·rintro⟨hl,h⟩;have hat:∀i (hi:i < o.keys.length),name o.keys[i]=true∧(i=0∨less (o.keys.getD (i - 1) []) o.keys[i]=true)∧(o.k=9→o.keys[i]≠lenK)∧(o.kids[i]'(by omega)).k≠0:=by
   intro i hi;have:=h i hi;unfold Gt at this;rw[Rt _ hi,List.getD_eq_getElem?_getD (l:=o.kids),List.getElem?_eq_getElem (by omega:i < o.kids.length)] at this;simp only[Bool.and_eq_true,Bool.or_eq_true,decide_eq_true_eq,Option.getD_some,Bool.not_eq_true',Bool.and_eq_false_iff,decide_eq_false_iff_not] at this;obtain⟨⟨⟨a,b⟩,c⟩,e⟩:=this;exact⟨a,b,fun h9 hk=>c.elim (fun x=>x h9) (fun x=>x hk),e⟩
  refine⟨hl,?_,?_,?_⟩
  ·refine List.pairwise_iff_getElem.2 fun i j hi hj hij=>?_;have step:∀i (hi:i+1 < o.keys.length),less o.keys[i] o.keys[i+1]=true:=by
    intro i hi;have:=(hat (i+1) hi).2.1;rcases this with h0|h0
    ·omega
    ·rwa [Nat.add_sub_cancel,Rt _ (by omega:i < o.keys.length)] at h0
   have:∀d,∀j (hj:j < o.keys.length),j=i+1+d→less o.keys[i] o.keys[j]=true:=by
    intro d
    induction d with
   |zero=>intro j hj he;subst he;exact step i hj
   |succ d ih=>
     intro j hj he;subst he;exact nY (ih (i+1+d) (by omega) rfl) (step (i+1+d) hj)
   exact this (j - (i+1)) j hj (by omega)
  ·intro k hk;obtain⟨i,hi,rfl⟩:=List.getElem_of_mem hk;exact⟨(hat i hi).1,(hat i hi).2.2.1⟩
  ·intro c hc;obtain⟨i,hi,rfl⟩:=List.getElem_of_mem hc;exact (hat i (by omega)).2.2.2
 ·rintro⟨hl,hr,hk,hc⟩;refine⟨hl,fun i hi=>?_⟩;unfold Gt;rw[Rt _ hi,List.getD_eq_getElem?_getD (l:=o.kids),List.getElem?_eq_getElem (by omega:i < o.kids.length)];simp only[Bool.and_eq_true,Bool.or_eq_true,decide_eq_true_eq,Option.getD_some,Bool.not_eq_true',Bool.and_eq_false_iff,decide_eq_false_iff_not];refine⟨⟨⟨(hk _ (List.getElem_mem hi)).1,?_⟩,?_⟩,hc _ (List.getElem_mem _)⟩
  ·rcases Nat.eq_zero_or_pos i with h0|h0
   ·exact .inl h0
   ·refine .inr ?_;rw[Rt _ (by omega:i - 1 < o.keys.length)];exact BH hr (by omega) hi
  ·by_cases h9:o.k=9
   ·exact .inr ((hk _ (List.getElem_mem hi)).2 h9)
   ·exact .inl h9
theorem yC {d:Nat}{o:Ob}:check d o=0↔(d≤24∧oF o=true∧(o.k=9→d≤1)∧fits o=true∧o.s.length≤long o.k∧o.kids.length≤8191∧form o=true)∧∀c∈o.kids,check (d+1) c=0:=by
 rw[Bo];have hw:why d o=0↔(d≤24∧oF o=true∧(o.k=9→d≤1)∧fits o=true∧o.s.length≤long o.k∧o.kids.length≤8191∧form o=true):=by
  unfold why;split
  ·simp;omega
  rename_i h1
  split
  ·rename_i h2
   simp only[show (10:Int)≠0 by decide,false_iff,not_and];rintro - a b;rcases h2 with h2|h2
   ·rw[h2] at a;cases a
   ·have:=b h2.1;omega
  rename_i h2
  simp only[not_or,Bool.not_eq_false,not_and,Nat.not_lt] at h2;split
  ·rename_i h3;simp[h3]
  rename_i h3
  split
  ·rename_i h4;simp;intros;omega
  rename_i h4
  split
  ·rename_i h5;simp;intros;omega
  rename_i h5
  split
  ·rename_i h6;simp[h6]
  rename_i h6
  simp only[Bool.not_eq_false] at h3 h6;exact⟨fun _=>⟨by omega,h2.1,h2.2,h3,by omega,by omega,h6⟩,fun _=>rfl⟩
 split
 ·rename_i h
  constructor
  ·intro e;exact absurd e h
  ·intro e;exact absurd (hw.2 e.1) h
 ·rename_i h
  have h:=Classical.not_not.1 h;rw[Hj];exact⟨fun e=>⟨hw.1 h,e⟩,fun e=>e.2⟩
end Vl
namespace Dk
end Dk
end
section
open Go
namespace Ps
open Lx (next Tok Ks)
open Wr (num parts eK bW)
def At (s:List UInt8)(a:Int)(p:List UInt8)(b:Int):Prop:=∃(x:Tok) (a':Int),Ks p x∧next s a=({ x with a:=a',t:=b },0)
def Toks (s:List UInt8):Int→List (List UInt8)→Int→Prop
|a,[],b=>a=b
|a,p::ps,b=>∃c,At s a p c∧Toks s c ps b
def We (s:List UInt8)(b:Int):Prop:=(next s b).2=0→(next s b).1.k=1→(next s (next s b).1.t).2=0→¬((next s (next s b).1.t).1.k=5∧(next s (next s b).1.t).1.s=[82])
end Ps
end
end Go.Proofs.YtoofficgclghoaaGreatDoor

namespace Go.Proofs.YtoofficgclghoaaGreatDoor
section
open Go
namespace Lx
open Oc
structure Form (x:Tok):Prop where
 int:x.k=1→-2147483647≤x.n∧x.n≤2147483647
 real:x.k=2→Fx.okB x.n=true
 str:x.s.length≤32767
 name:x.k=4→Vl.name x.s=true
 kind:x.k=0∨x.k=1∨x.k=2∨x.k=3∨x.k=4∨x.k=5∨x.k=6
theorem Pw:Form none_:=⟨fun e=>by simp[none_] at e,fun e=>by simp[none_] at e,by simp[none_],fun e=>by simp[none_] at e,.inl rfl⟩
theorem B7 {k a t:Int}{x:List UInt8}{m:Int}(h:(told k a t x m).2=0)(hm:m≤32767)(hk:k=3∨k=4∨k=5)(hn:k=4→m≤127∧(0:UInt8) ∉ x):Form (told k a t x m).1:=by
 have e:=qF h;unfold told at h;split at h
 ·simp[refused] at h
 rename_i hx
 rw[e];refine⟨?_,?_,?_,?_,?_⟩
 ·intro h1;simp only at h1;omega
 ·intro h1;simp only at h1;omega
 ·show x.length≤_;omega
 ·intro h1;obtain⟨h2,h3⟩:=hn h1;show Vl.name x=true;unfold Vl.name;simp only[Bool.and_eq_true,decide_eq_true_eq];exact⟨by omega,h3⟩
 ·show k=0∨k=1∨k=2∨k=3∨k=4∨k=5∨k=6;omega
theorem K5:∀c:UInt8,regular c=true→c≠0:=all8 (by decide +kernel)
theorem QR (a b:UInt8):¬(digit a < 0)→¬(digit b < 0)→¬(16*digit a+digit b=0)→byte (digit a) (digit b)≠0:=by
 have hd:∀c:UInt8,digit c≤15:=all8 (by decide +kernel);intro h1 h2 h3 h4;have ha:=hd a;have hb:=hd b;unfold byte at h4;have h5:=congrArg UInt8.toNat h4;rw[UInt8.toNat_ofNat_of_lt' (by show _ < 256;omega)] at h5;have:(0:UInt8).toNat=0:=rfl;omega
theorem Pn (n:Nat):∀(l x:List UInt8),l.length≤n→l.all regular=true→dJ l=some x→(0:UInt8) ∉ x:=by
 induction n with
|zero=>
  intro l x hl _ h;cases l with
 |nil=>simp[dJ] at h;subst h;simp
 |cons _ _=>simp at hl
|succ n ih=>
  intro l x hl hr h;cases l with
 |nil=>simp[dJ] at h;subst h;simp
 |cons c t=>
   simp only[List.all_cons,Bool.and_eq_true] at hr;by_cases hc:c=35
   ·subst hc
    match t,hl,hr,h with
   |[],_,_,h=>simp[dJ] at h
   |[a],_,_,h=>simp[dJ] at h
   |a::b::t,hl,hr,h=>
     simp only[dJ,if_true] at h;split at h
     ·cases h
     ·rename_i hh
      simp only[not_or] at hh;obtain⟨y,hy,rfl⟩:=map_some h;have h1:(0:UInt8) ∉ y:=ih t y (by simp at hl;omega) (by simp at hr ⊢;exact hr.2.2.2) hy;have h2:=QR a b hh.1 hh.2.1 hh.2.2;simp only[List.mem_cons,not_or];exact⟨fun e=>h2 e.symm,h1⟩
   ·rw[Es hc] at h;obtain⟨y,hy,rfl⟩:=map_some h;have h1:(0:UInt8) ∉ y:=ih t y (by simpa using hl) hr.2 hy;simp only[List.mem_cons,not_or];exact⟨fun e=>K5 c hr.1 e.symm,h1⟩
theorem QY:∀l:List UInt8,(l.take (runF l)).all regular=true:=fun l=>(Jo l).1
theorem TO (s:List UInt8)(i:Nat):(cut s i (run s i)).all regular=true:=by
 unfold cut run;rw[Nat.add_sub_cancel_left];exact QY _
theorem NF {t:List UInt8}{a b:Int}(h:(oL t a b).2=0):Form (oL t a b).1:=by
 unfold oL at h ⊢;split at h
 ·rename_i h1
  rw[if_pos h1];split at h
  ·rename_i h2;simp[refused] at h;exact absurd h h2
  rename_i h2
  rw[if_neg h2];have h2:=Classical.not_not.1 h2;refine⟨fun _=>?_,fun e=>?_,by simp,fun e=>?_,.inr (.inl rfl)⟩
  ·unfold whole at h2 ⊢;split at h2
   ·simp at h2
   ·rename_i h3
    rw[if_neg h3];simp only;split<;>omega
  ·simp at e
  ·simp at e
 rename_i h1
 rw[if_neg h1];split at h
 ·rename_i h2
  rw[if_pos h2];refine⟨fun e=>?_,fun _=>?_,by simp,fun e=>?_,.inr (.inr (.inl rfl))⟩
  ·simp at e
  ·have h3:=h2.2;show Fx.okB (Fx.read t).1=true;unfold Fx.read at h3 ⊢;split at h3
   ·rename_i h4
    rw[if_pos h4];split at h3
    ·simp at h3
    ·rename_i h5
     rw[if_neg h5];generalize (if Fx.minus t=true then -Fx.mag t else Fx.mag t)=q at h3 ⊢;unfold Fx.ans at h3 ⊢;cases hq:Fx.okB q with
    |true=>rw[if_pos rfl];exact hq
    |false=>rw[hq] at h3;simp at h3
   ·simp at h3
  ·simp at e
 rename_i h2
 rw[if_neg h2];split at h
 ·simp[refused] at h
 rename_i h3
 rw[if_neg h3];exact B7 h (by decide) (by decide) (fun h=>absurd h (by decide))
theorem Gg (s:List UInt8)(a n:Nat)(hn:n≤2):Form (mark s a n).1:=by
 refine⟨fun e=>?_,fun e=>?_,?_,fun e=>?_,by simp[mark]⟩
 ·simp[mark] at e
 ·simp[mark] at e
 ·show (cut s a (a+n)).length≤_;unfold cut;rw[List.length_take];omega
 ·simp[mark] at e
theorem NR {s:List UInt8}{a:Nat}(h:(token s a).2=0):Form (token s a).1:=by
 unfold token at h ⊢;split at h
 ·exact⟨fun e=>by simp at e,fun e=>by simp at e,by simp,fun e=>by simp at e,.inl rfl⟩
 rename_i c t hd
 split at h
 ·rename_i h1;rw[if_pos h1];exact Gg s a 1 (by omega)
 rename_i h1;rw[if_neg h1]
 split at h
 ·rename_i h2;rw[if_pos h2]
  split at h
  ·rename_i h3;rw[if_pos h3];exact Gg s a 2 (by omega)
  ·rename_i h3;rw[if_neg h3]
   unfold hex at h ⊢;split at h
   ·exact Pw
   ·exact B7 h (by decide) (by decide) (fun h=>absurd h (by decide))
 rename_i h2;rw[if_neg h2]
 split at h
 ·rename_i h3;rw[if_pos h3]
  split at h
  ·rename_i h4;rw[if_pos h4];exact Gg s a 2 (by omega)
  ·simp[refused] at h
 rename_i h3;rw[if_neg h3]
 split at h
 ·rename_i h4;rw[if_pos h4]
  unfold name at h ⊢;split at h
  ·simp[refused] at h
  ·rename_i x hx
   refine B7 h (by decide) (by decide) (fun _=>⟨by decide,Pn _ _ _ (Nat.le_refl _) (TO s (a+1)) hx⟩)
 rename_i h4;rw[if_neg h4]
 split at h
 ·rename_i h5;rw[if_pos h5]
  unfold text at h ⊢;split at h
  ·simp[refused] at h
  ·exact B7 h (by decide) (by decide) (fun h=>absurd h (by decide))
 rename_i h5;rw[if_neg h5]
 split at h
 ·simp[refused] at h
 rename_i h6;rw[if_neg h6]
 exact NF h
theorem Ce {s:List UInt8}{i:Int}(h:(next s i).2=0):Form (next s i).1:=by
 unfold next at h ⊢
 split at h
 ·simp[refused] at h
 rename_i h1
 rw[if_neg h1];exact NR h
end Lx
end
section
open Go
namespace Ps
open Lx (next Tok)
theorem zO {s:List UInt8}{n:Nat}{a:Int}(h:(obj s n a).2.2=0):(next s a).2=0∧(next s a).1.k≠0∧bB (next s a).1=true∧∃m,n=m+1 ∧
  obj s n a=if (next s a).1.k≠6 then leaf s (next s a).1 else if (next s a).1.s=[91] then arr s (decide (m≠0)) (obj s m) (s.length+1) (next s a).1.t [] else dict s (obj s m) (s.length+1) (next s a).1.t aZ []:=by
 cases n with
|zero=>
  rw[obj] at h;split at h
  ·rename_i h1;exact absurd h h1
  split at h
  ·simp[bad] at h
  split at h
  ·simp[bad] at h
  ·simp[bad] at h
|succ n=>
  rw[obj] at h;split at h
  ·rename_i h1;exact absurd h h1
  rename_i h1
  split at h
  ·simp[bad] at h
  rename_i h2
  split at h
  ·simp[bad] at h
  rename_i h3
  refine⟨Classical.not_not.1 h1,h2,by simpa using h3,n,rfl,?_⟩;rw[obj,if_neg h1,if_neg h2,if_neg h3]
def Val (d:Nat)(o:Ob):Prop:=Vl.check d o=0∧o.k≠9
theorem uA {d:Nat}(hd:d≤24){k n g:Int}{s:List UInt8}(hk:k≠9∧k≠7)(hu:Vl.oF (.mk k n g s [] [])=true)(hf:Vl.fits (.mk k n g s [] [])=true)(hl:s.length≤Vl.long k)(hn:k=5→Vl.name s=true):Val d (.mk k n g s [] []):=by
 refine⟨Vl.yC.2 ⟨⟨hd,hu,fun h=>absurd h hk.1,hf,hl,by simp[Ob.kids],?_⟩,fun c hc=>by simp[Ob.kids] at hc⟩,hk.1⟩;unfold Vl.form;have h79:decide ((Ob.mk k n g s [] []).k=7∨(Ob.mk k n g s [] []).k=9)=false:=decide_eq_false (by
  rintro (h|h)
  ·exact hk.2 h
  ·exact hk.1 h)
 rw[h79];simp only[Bool.not_false,Bool.true_or,Bool.and_true];by_cases h5:k=5
 ·rw[show (Ob.mk k n g s [] []).s=s from rfl,hn h5];simp
 ·rw[decide_eq_false (show ¬(Ob.mk k n g s [] []).k=5 from h5)];rfl
theorem QF {s:List UInt8}{a:Int}{d:Nat}(hd:d≤24)(h0:(next s a).2=0)(hk:(next s a).1.k≠0)(h6:(next s a).1.k≠6):Val d (leaf s (next s a).1).1:=by
 have f:=Lx.Ce h0;unfold leaf;split
 ·rename_i h1
  have hi:=f.int h1;cases hr:ref s (next s a).1 with
 |some p=>
   have hb:=OI hr;exact uA hd (by decide) rfl (by simp[Vl.fits,Ob.k,Ob.n,Ob.g];exact⟨decide_eq_true ⟨hb.2.2.1,hb.2.2.2.1⟩,decide_eq_true ⟨hb.2.2.2.2.1,hb.2.2.2.2.2⟩⟩) (by simp) (by decide)
 |none=>exact uA hd (by decide) rfl (by simp[Vl.fits,Ob.k,Ob.n];exact decide_eq_true hi) (by simp) (by decide)
 split
 ·rename_i h1 h2
  have hr:=f.real h2;have hr2:-1073741824≤(next s a).1.n∧(next s a).1.n≤1073741824:=by simpa[Fx.okB] using hr
  exact uA hd (by decide) rfl (by simp[Vl.fits,Ob.k,Ob.n];exact decide_eq_true hr2) (by simp) (by decide)
 split
 ·exact uA hd (by decide) rfl rfl (by have:=f.str;show _≤32767;exact this) (fun h=>absurd h (by decide))
 split
 ·rename_i h1 h2 h3 h4
  have hn:=f.name h4;refine uA hd (by decide) rfl rfl ?_ (fun _=>hn);unfold Vl.name at hn;simp only[Bool.and_eq_true,decide_eq_true_eq] at hn;show _≤127;exact hn.1
 split
 ·exact uA hd (by decide) rfl rfl (by simp) (by decide)
 ·refine uA hd (by decide) rfl ?_ (by simp) (by decide);split<;>rfl
def Tu (s:List UInt8)(d:Nat)(ok:Bool)(sub:Int→R):Prop:=∀a,(sub a).2.2=0→Val d (sub a).1∧bB (next s a).1=true∧ok=true
theorem Pr {s:List UInt8}{d:Nat}{ok:Bool}{sub:Int→R}(hd:d≤24)(hg:Tu s (d+1) ok sub):∀(m:Nat) (a:Int) (acc:List Ob),acc.length≤8191→(∀o∈acc,Val (d+1) o)→(arr s ok sub m a acc).2.2=0→Val d (arr s ok sub m a acc).1
|0,a,acc,_,_,h=>by simp[arr,bad] at h
|m+1,a,acc,hl,hv,h=>by
  rw[arr] at h ⊢;split at h
  ·rename_i h1
   rw[if_pos h1];refine⟨Vl.yC.2 ⟨⟨hd,rfl,fun e=>by simp[Ob.k] at e,rfl,by simp[Ob.s],hl,rfl⟩,fun c hc=>(hv c hc).1⟩,by simp[Ob.k]⟩
  rename_i h1
  rw[if_neg h1];split at h
  ·simp[bad] at h
  rename_i h2
  rw[if_neg h2];split at h
  ·rename_i h3;exact absurd h h3
  rename_i h3
  rw[if_neg h3];split at h
  ·rename_i h4;exact absurd h h4
  rename_i h4
  rw[if_neg h4];obtain⟨g1,g2,g3⟩:=hg a (Classical.not_not.1 h4);have hlt:acc.length≠8191:=fun e=>h2 ⟨Classical.not_not.1 h3,e,g2,g3⟩;exact Pr hd hg m _ _ (by simp;omega) (fun o ho=>by
   rcases List.mem_append.1 ho with ho|ho
   ·exact hv o ho
   ·rw[List.mem_singleton] at ho;subst ho;exact g1) h
structure DictV (d:Nat) (o:Ob) (met:List (List UInt8)):Prop where
 k:o.k=7
 n:o.n=0
 g:o.g=0
 s:o.s=[]
 rise:Vl.Rise o.keys
 len:o.keys.length=o.kids.length
 names:∀k∈o.keys,Vl.name k=true
 kids:∀c∈o.kids,c.k≠0∧Val (d+1) c
 few:o.kids.length≤met.length
 most:met.length≤8191
theorem PE {o v:Ob}{key:List UInt8}:(∀k∈(Vl.put o key v).keys,k=key∨k∈o.keys)∧(∀c∈(Vl.put o key v).kids,c=v∨c∈o.kids)∧(Vl.put o key v).kids.length≤o.kids.length+1:=by
 unfold Vl.put;simp only[Ob.keys,Ob.kids];refine⟨fun k hk=>?_,fun c hc=>?_,?_⟩
 ·rcases List.mem_append.1 hk with h|h
  ·exact .inr (List.mem_of_mem_take h)
  ·rcases List.mem_cons.1 h with h|h
   ·exact .inl h
   ·exact .inr (List.mem_of_mem_drop h)
 ·rcases List.mem_append.1 hc with h|h
  ·exact .inr (List.mem_of_mem_take h)
  ·rcases List.mem_cons.1 h with h|h
   ·exact .inl h
   ·exact .inr (List.mem_of_mem_drop h)
 ·simp only[List.length_append,List.length_take,List.length_cons,List.length_drop];split<;>omega
theorem NY {d:Nat}{o v:Ob}{met:List (List UInt8)}{key:List UInt8}(h:DictV d o met)(hk:Vl.name key=true)(hv:Val (d+1) v)(hm:met.length≠8191):DictV d (join o key v) (met++[key]):=by
 have hmost:=h.most;have hfew:=h.few;unfold join;split
 ·rename_i h0
  obtain⟨p1,p2⟩:=Vl.HZ (key:=key) (v:=v) h.rise h.len;obtain⟨m1,m2,m3⟩:=PE (o:=o) (v:=v) (key:=key);refine⟨h.k,h.n,h.g,h.s,p1,p2,fun k hkk=>?_,fun c hc=>?_,by simp;omega,by simp;omega⟩
  ·rcases m1 k hkk with rfl|e
   ·exact hk
   ·exact h.names k e
  ·rcases m2 c hc with rfl|e
   ·exact⟨h0,hv⟩
   ·exact h.kids c e
 ·exact⟨h.k,h.n,h.g,h.s,h.rise,h.len,h.names,h.kids,by simp;omega,by simp;omega⟩
theorem PO {d:Nat}(hd:d≤24){o:Ob}{met:List (List UInt8)}(h:DictV d o met):Val d o:=by
 have hfew:=h.few;have hmost:=h.most;refine⟨Vl.yC.2 ⟨⟨hd,?_,fun e=>?_,?_,?_,by omega,?_⟩,fun c hc=>(h.kids c hc).2.1⟩,by rw[h.k];decide⟩
 ·simp[Vl.oF,Vl.used,h.k,h.n,h.g,h.s]
 ·rw[h.k] at e;simp at e
 ·simp[Vl.fits,h.k]
 ·rw[h.s];simp
 ·have hr:Vl.rising o=true:=Vl.Hi.2 ⟨h.len,h.rise,fun k hk=>⟨h.names k hk,fun e=>by rw[h.k] at e;simp at e⟩,fun c hc=>(h.kids c hc).1⟩;simp[Vl.form,h.k,hr]
theorem MH {s:List UInt8}{d:Nat}{ok:Bool}{sub:Int→R}(hd:d≤24)(hg:Tu s (d+1) ok sub):∀(m:Nat) (a:Int) (o:Ob) (met:List (List UInt8)),DictV d o met→(dict s sub m a o met).2.2=0→Val d (dict s sub m a o met).1
|0,a,o,met,_,h=>by simp[dict,bad] at h
|m+1,a,o,met,hv,h=>by
  rw[dict] at h ⊢;split at h
  ·rename_i h1;exact absurd h h1
  rename_i h1
  rw[if_neg h1];have h1:=Classical.not_not.1 h1;split at h
  ·rename_i h2
   rw[if_pos h2];exact PO hd hv
  rename_i h2
  rw[if_neg h2];split at h
  ·simp[bad] at h
  rename_i h3
  rw[if_neg h3];split at h
  ·simp[bad] at h
  rename_i h4
  rw[if_neg h4];split at h
  ·simp[bad] at h
  rename_i h5
  rw[if_neg h5];split at h
  ·simp[bad] at h
  rename_i h6
  rw[if_neg h6];split at h
  ·rename_i h7;exact absurd h h7
  rename_i h7
  rw[if_neg h7];have f:=Lx.Ce h1;exact MH hd hg m _ _ _ (NY hv (f.name (Classical.not_not.1 h4)) (hg _ (Classical.not_not.1 h7)).1 h6) h
theorem Ua (s:List UInt8):∀(n:Nat),n≤24→∀a,(obj s n a).2.2=0→Val (25 - n) (obj s n a).1:=by
 intro n
 induction n with
|zero=>
  intro _ a h;obtain⟨_,_,_,m,hm,_⟩:=zO h;omega
|succ n ih=>
  intro hn a h;obtain⟨h1,h2,h3,m,hm,he⟩:=zO h;have hm:n=m:=by omega
  subst hm;rw[he] at h ⊢;have hd:25 - (n+1)≤24:=by omega
  have hg:Tu s (25 - (n+1)+1) (decide (n≠0)) (obj s n):=by
   intro b hb;obtain⟨_,_,b3,k,hk,_⟩:=zO hb;have e:25 - (n+1)+1=25 - n:=by omega
   rw[e];exact⟨ih (by omega) b hb,b3,decide_eq_true (by omega)⟩
  split at h
  ·rename_i h4
   rw[if_pos h4];exact QF hd h1 h2 h4
  rename_i h4
  rw[if_neg h4];split at h
  ·rename_i h5
   rw[if_pos h5];exact Pr hd hg _ _ _ (by simp) (fun o ho=>by cases ho) h
  ·rename_i h5
   rw[if_neg h5];exact MH hd hg _ _ _ _ ⟨rfl,rfl,rfl,rfl,List.Pairwise.nil,rfl,(fun k hk=>by cases hk),(fun c hc=>by cases hc),by simp[aZ,Ob.kids],by simp⟩ h
theorem Pp {o v:Ob}{key:List UInt8}:(join o key v).wt≤o.wt+(key.length+1)+v.wt:=by
 unfold join;split
 ·exact Vl.U4 o key v
 ·omega
end Ps
end
section
open Eng Go.RowKit
structure DictS (o:Ob) (met:List (List UInt8)):Prop where
 k:o.k=7
 rise:Vl.Rise o.keys
 len:o.keys.length=o.kids.length
 sub:∀k∈o.keys,k∈met
 few:o.kids.length≤met.length
theorem Hn {o v:Ob}{met:List (List UInt8)}{key:List UInt8}(h:DictS o met)(hn:key ∉ met):DictS (Ps.join o key v) (met++[key]):=by
 unfold Ps.join;split
 ·obtain⟨p1,p2,p3⟩:=Ps.PE (o:=o) (v:=v) (key:=key);obtain⟨r1,r2⟩:=Vl.HZ (v:=v) h.rise h.len (key:=key);refine⟨h.k,r1,r2,fun k hk=>?_,by have:=h.few;simp;omega⟩;rcases p1 k hk with h1|h1
  ·simp[h1]
  ·exact List.mem_append_left _ (h.sub k h1)
 ·exact⟨h.k,h.rise,h.len,fun k hk=>List.mem_append_left _ (h.sub k hk),by have:=h.few;simp;omega⟩
abbrev ND (b9 b6:Nat)(o:Ob)(vk vc vm:Value)(met:List (List UInt8))(n:Nat)(cs:List Value)(N:Mem):List Ent:=[obE b9 o vk vc,obE b6 ob0 nilS nilS,keyE vm met,keyE vk o.keys,kidE vc n cs,.mem N]
theorem Lp (s:List UInt8)(n:Nat)(hn:n≤23)(hs:s.length≤1000000000)(hsub:RObj s n)(a:Int)(h0:0≤a)(h1:a≤s.length)(M:Mem)(w:World)(hM:M.has w) :
  RetM prog 81 #[.string ⟨s.toArray⟩,.int .i64 a,.int .i64 (24 - (n:Int))] M w (objR (Ps.dict s (Ps.obj s n) (s.length+1) a Ps.aZ [])):=by
 refine uL hM fun K hK=>vI ?_;unfold gR;have ho:=(((OwnS.memS hM).nilU 42 6).nilU 9 1).nilU 9 1;refine bU ho fun b6 w1 ho=>?_;have hb6:∀{PK:PKT} {K:VWP},DoX prog (aG 42 #[(0,(.int .i64 7))]) w1 PK K=K (obV Ps.aZ nilS nilS) w1:=aT (by kernel_rfl);rw[hb6];refine bU ho fun b9 w2 ho=>?_;refine bA (o':=Ps.aZ) (vk':=nilS) (vc':=nilS) 0 rfl rfl ho rfl fun w3 ho=>?_;have ho:OwnS M.A w w3 (ND b9 b6 Ps.aZ nilS nilS nilS [] 0 [] M):=ho;generalize hR:Ps.dict s (Ps.obj s n) (s.length+1) a Ps.aZ []=R at *;refine loop (fun vs w'=>∃(a':Int) (m:Nat) (o:Ob) (met:List (List UInt8)) (cs:List Value) (vk vc vm:Value) (N:Mem),vs=[.int .i64 a',.int .i64 0,.int .i64 0,vm]∧0≤a'∧a'≤s.length∧(met.length:Int)≤a'∧met.length+m=s.length+1 ∧
   Ps.dict s (Ps.obj s n) m a' o met=R∧M.le N∧OVs N.A N.w cs o.kids∧DictS o met ∧
   OwnS M.A w w' (ND b9 b6 o vk vc vm met o.kids.length cs N)) (fun vs _=>s.length - n0 vs)
  ⟨a,s.length+1,Ps.aZ,[],[],nilS,nilS,nilS,M,rfl,h0,h1,by simpa using h0,by simp,hR,M.le_refl,OVs.nil,⟨rfl,List.Pairwise.nil,rfl,by simp[Ps.aZ,Ob.keys],by simp[Ps.aZ,Ob.kids]⟩,ho⟩ ?_
 clear ho hR;rintro vs w4 ⟨a',m,o,met,cs,vk,vc,vm,N,rfl,ha0,ha1,hla,hml,hdict,hle,hall,hds,ho⟩ _;simp only[lM,gd];obtain⟨m,rfl⟩:∃k,m=k+1:=⟨m - 1,by omega⟩;rw[Ps.dict] at hdict;refine Bw ho (mR s a' w4 (by omega)) fun b11 w5 ho=>?_;have hvk:=bJ (ho.at_ 4 rfl);have hvc:=bJ (ho.at_ 5 rfl);have hbd:=@Lx.bV s a';have hge:=Lx.cO s a'.toNat;generalize Lx.next s a'=x at *
 -- an error ends the loop
 have fail:∀{W:World} {L:List Ent} {N':Mem} (i j:Nat) (e:Int) {o:Ob} {vk vc:Value},OwnS M.A w W L→L[i]?=some (obE b6 o vk vc)→L[j]?=some (.mem N')→(∀x,(L.set i x)[j]?=some (.mem N'))→M.le N'→Ps.bad e=R →
   DoX prog (aG 42 #[]) W (pk K) (fun t W=>DoX prog (aD 42 (.pointer (some ⟨b6,0,none⟩)) t) W (pk K) fun _ W=>RetX prog [.cell (.pointer (some ⟨b6,0,none⟩)) 42,.val (.int .i64 0),.val (.int .i64 e)] W K):=by
  intro W L N' i j e o vk vc ho hi hj hs hle he;refine Bg i ho hi fun w' ho=>?_;refine hK _ _ N' _ j ho (hs _) hle ?_;rw[←he];exact⟨_,rfl,xP⟩
 have ho:OwnS M.A w w5 (tokE b11 x.1::ND b9 b6 o vk vc vm met o.kids.length cs N):=ho;simp only[rs];by_cases e1:x.2=0
 case neg=>
  rw[if_pos e1] at hdict;simp only[e1,ne_eq,not_false_eq_true,decide_true,rs];exact fail 2 6 _ ho rfl rfl (fun _=>rfl) hle hdict
 rw[if_neg (by rw[e1];simp)] at hdict;simp only[e1,ne_eq,not_true,decide_false,rs,cS,tk_k ho 0 rfl];by_cases e2:x.1.k=6∧x.1.s=[62,62]
 ·rw[if_pos e2] at hdict;simp only[decide_eq_true e2.1,rs,bK,tk_s ho 0 rfl,decide_eq_true e2.2];have ho:=ho.drew;refine⟨fun W=>(obE b9 o vk vc).is W∧(tokE b11 x.1).is W,⟨ho.at_ 1 rfl,ho.at_ 0 rfl⟩,?_⟩;refine iB (obV o vk vc) (fun W h=>bL (AtV.agg eU (cs:=obC o vk vc) rfl fun j u hj=>by rw[Nat.zero_add];exact aU (T:=42) h.1 hj)) ?_;refine aR _ (fun _=>aY ft2) ?_;refine iB (.int .i64 x.1.t) (fun W h=>aM nInt (aU (T:=53) (cs:=tokC x.1) (i:=2) h.2 rfl)) ?_;refine bA 2 hvk hvc ho rfl fun w6 ho=>⟨⟨ho.at_ 1 rfl,ho.at_ 0 rfl⟩,?_⟩;have ho:OwnS M.A w w6 ([tokE b11 x.1,obE b9 o vk vc,obE b6 o vk vc,keyE vm met]++([keyE vk o.keys,kidE vc o.kids.length cs]++[.mem N])):=ho;have ho:=ho.front;have ho:OwnS M.A w w6 [keyE vk o.keys,kidE vc o.kids.length cs,tokE b11 x.1,obE b9 o vk vc,obE b6 o vk vc,keyE vm met,.mem N]:=ho;obtain⟨N2,hle2,hrow,ho⟩:=OwnS.eT (L:=[kidE vc o.kids.length cs,tokE b11 x.1,obE b9 o vk vc,obE b6 o vk vc,keyE vm met,.mem N]) ho 5 rfl;obtain⟨N3,hle3,hrow3,ho⟩:=OwnS.eT (L:=[tokE b11 x.1,obE b9 o vk vc,obE b6 o vk vc,keyE vm met,.mem N2]) ho 4 rfl;refine BA (bC (ho.agg 2 rfl eU)) dR dR (hK _ _ N3 _ 4 ho rfl ((hle.trans hle2).trans hle3) ?_);rw[←hdict];exact⟨_,rfl,ObAt.ov ⟨hrow.le hle3,hrow3,(hall.le hle2).le hle3⟩⟩
 rw[if_neg e2] at hdict
 -- no end
 have on:IfX (.bool (decide (x.1.k=0))) (DoX prog (aG 42 #[]) w5 (pk K) fun t41 w=>
 DoX prog (aD 42 (.pointer (some ⟨b6,0,none⟩)) t41) w (pk K) fun _ w=>
 RetX prog [.cell (.pointer (some ⟨b6,0,none⟩)) 42,.val (.int .i64 0),.val (.int .i64 4)] w K) (IfX (.bool (decide (x.1.k≠4))) (DoX prog (aG 42 #[]) w5 (pk K) fun t45 w=>
 DoX prog (aD 42 (.pointer (some ⟨b6,0,none⟩)) t45) w (pk K) fun _ w=>
 RetX prog [.cell (.pointer (some ⟨b6,0,none⟩)) 42,.val (.int .i64 0),.val (.int .i64 3)] w K) (LoopX [.int .i64 0,.int .i64 0,(.int .i64 0)] w5 (fun vs3 W' N3=>∀_:Sg,eS (.string ⟨s.toArray⟩) (.int .i64 (24 - (n:Int))) (.pointer (some ⟨b6,0,none⟩)) (vs3.getD 0 undef) (vs3.getD 1 undef) (.pointer (some ⟨b9,0,none⟩)) vm (.pointer (some ⟨b11,0,none⟩)) (vs3.getD 2 undef) W' (Je (fun vs w'=>∃(a':Int) (m:Nat) (o:Ob) (met:List (List UInt8)) (cs:List Value) (vk vc vm:Value) (N:Mem),vs=[.int .i64 a',.int .i64 0,.int .i64 0,vm]∧0≤a'∧a'≤s.length∧(met.length:Int)≤a'∧met.length+m=s.length+1 ∧
   Ps.dict s (Ps.obj s n) m a' o met=R∧M.le N∧OVs N.A N.w cs o.kids∧DictS o met ∧
   OwnS M.A w w' (ND b9 b6 o vk vc vm met o.kids.length cs N)) (fun vs _=>s.length - n0 vs) [.int .i64 a',.int .i64 0,.int .i64 0,vm] w4) N3 K))):=by
  by_cases e3:x.1.k=0
  ·rw[if_pos e3] at hdict;simp only[e3,decide_true,i_t];exact fail 2 6 _ ho rfl rfl (fun _=>rfl) hle hdict
  rw[if_neg e3] at hdict;simp only[decide_eq_false e3,i_f];by_cases e4:x.1.k=4
  case neg=>
   rw[if_pos e4] at hdict;simp only[decide_eq_true e4,i_t];exact fail 2 6 _ ho rfl rfl (fun _=>rfl) hle hdict
  rw[if_neg (by rw[e4];simp)] at hdict;simp only[e4,ne_eq,not_true,decide_false,i_f];have hb:=hbd e1 e3;refine loop (fun vs w'=>∃i:Nat,vs=[.int .i64 0,.int .i64 0,.int .i64 i]∧i≤met.length∧(∀j (h:j < met.length),j < i→met[j]≠x.1.s)∧OwnS M.A w w' (tokE b11 x.1::ND b9 b6 o vk vc vm met o.kids.length cs N)) (fun vs _=>met.length - (RowKit.intOf (vs.getD 2 undef)).toNat) ⟨0,rfl,by omega,fun j _ h=>by omega,ho⟩ ?_;clear ho;rintro vs w6 ⟨i,rfl,hi,hne,ho⟩ _;simp only[eS,gd];rw[bF Tryz.underlying39 (ho.slU 3 rfl)];simp only[rs];by_cases hlt:(i:Int) < (met.length:Int)
  ·have hi':i < met.length:=by omega
   simp only[decide_eq_true hlt,i_t];obtain⟨g,cap,_,ia,ld⟩:=key_row 3 ho rfl hi';refine quiet ?_;refine q_do _ (fun w=>ia w) (q_at _ (fun _ hb=>ld _ ((ho.grow hb).at_ 3 rfl)) (q_do _ (fun _=>aY ft4) (q_at _ (fun _ hb=>TR (ho.grow hb) 0 rfl) (TV ?_))));intro w7 hbw;have ho:=ho.grow hbw;by_cases he:met[i]=x.1.s
   ·rw[if_pos (show x.1.s∈met from he▸List.getElem_mem hi')] at hdict;simp only[decide_eq_true he,i_t];exact fail 2 6 _ ho rfl rfl (fun _=>rfl) hle hdict
   ·simp only[decide_eq_false he,i_f];rw[aC (by omega) (by omega)];refine bG ⟨i+1,rfl,by omega,fun j hj hji=>?_,ho⟩ (by show met.length - Int.toNat ((i:Int)+1) < met.length - Int.toNat (i:Int);omega);rcases Nat.lt_or_ge j i with h|h
    ·exact hne j hj h
    ·have:j=i:=by omega
     subst this;exact he
  have hi':i=met.length:=by omega
  simp only[decide_eq_false hlt,i_f];rw[bF Tryz.underlying39 (ho.slU 3 rfl)];simp only[rs];have hnm:x.1.s ∉ met:=fun h=>by
   obtain⟨j,hj,he⟩:=List.getElem_of_mem h;exact hne j hj (by omega) he
  rw[if_neg hnm] at hdict;by_cases e5:met.length=8191
  ·rw[if_pos e5] at hdict;simp only[show (met.length:Int)=8191 by omega,decide_true,i_t];exact fail 2 6 _ ho rfl rfl (fun _=>rfl) hle hdict
  rw[if_neg e5] at hdict;simp only[decide_eq_false (show ¬(met.length:Int)=8191 by omega),i_f,bK,tk_s ho 0 rfl];refine qJ x.1.s ho fun nb w7 ho=>?_;refine F8 4 ho rfl (ho.sl 0 rfl 1 1 1 rfl) (by simp[Value.oneCell']) (by omega) fun vm' w8 ho=>?_;have ho:=ho.tail;have ho:OwnS M.A w w8 [tokE b11 x.1,obE b9 o vk vc,obE b6 ob0 nilS nilS,keyE vm' (met++[x.1.s]),keyE vk o.keys,kidE vc o.kids.length cs,.mem N]:=by
   have e:bR (met++[x.1.s])=bR met++[.string ⟨x.1.s.toArray⟩]:=by rw[oH];rfl
   rw[keyE,List.length_append,List.length_singleton,e];exact ho
  rw[xH,tk_t ho 0 rfl];rw[aC (by omega) (by omega),show (24:Int) - n+1=25 - n by omega];refine DP ho 6 rfl (hsub x.1.t N w8 (ho.hasM 6 rfl)) ?_;rintro _ N2 w9 hle2 ⟨u,rfl,hu⟩ ho;have hbd2:=@Ps.JS s n x.1.t;generalize Ps.obj s n x.1.t=e at *;obtain⟨xk,xc,xcs,rfl,hx⟩:=hu.open;simp only[ex];refine bU ho fun b14 w10 ho=>?_;refine bA 0 hx.keys.one hx.kids.one ho rfl fun w11 ho=>?_;have ho:OwnS M.A w w11 [obE b14 e.1 xk xc,tokE b11 x.1,obE b9 o vk vc,obE b6 ob0 nilS nilS,keyE vm' (met++[x.1.s]),keyE vk o.keys,kidE vc o.kids.length cs,.mem N2]:=ho;simp only[rs];by_cases hz:e.2.2=0
  case neg=>
   simp only[hz,ne_eq,not_false_eq_true,decide_true,i_t];rw[if_pos hz] at hdict;exact fail 3 7 _ ho rfl rfl (fun _=>rfl) (hle.trans hle2) hdict
  simp only[hz,ne_eq,not_true,decide_false,i_f];rw[if_neg (by rw[hz];simp)] at hdict;have hb2:=hbd2 hz;have hds2:=Hn (v:=e.1) hds hnm;refine join fun J hJ=>?_;have fin:∀{W:World} {vk' vc':Value} {cs':List Value},OVs N2.A N2.w cs' (Ps.join o x.1.s e.1).kids→OwnS M.A w W (ND b9 b6 (Ps.join o x.1.s e.1) vk' vc' vm' (met++[x.1.s]) (Ps.join o x.1.s e.1).kids.length cs' N2)→J [] W:=by
   intro W vk' vc' cs' hov ho;refine hJ _ _ fun _=>?_;unfold mA;refine bG ⟨e.2.1,m,Ps.join o x.1.s e.1,met++[x.1.s],cs',vk',vc',vm',N2,rfl,by omega,hb2.2,by simp;omega,by simp;omega,hdict,hle.trans hle2,hov,hds2,ho⟩ (by show s.length - Int.toNat e.2.1 < s.length - Int.toNat a';omega)
  rw[oG,ob_k ho 0 rfl];simp only[rs];by_cases hk:e.1.k=0
  ·simp only[hk,ne_eq,not_true,decide_false,i_f];have ej:Ps.join o x.1.s e.1=o:=by unfold Ps.join;rw[if_neg (by rw[hk];simp)]
   rw[ej] at fin;exact fin (hall.le hle2) ho.tail.tail
  simp only[ne_eq,hk,not_false_eq_true,decide_true,i_t];have ej:Ps.join o x.1.s e.1=Vl.put o x.1.s e.1:=by unfold Ps.join;rw[if_pos hk]
  rw[ej] at fin;rw[ob_v ho 2 rfl,tk_s ho 1 rfl,ob_v ho 0 rfl];have ho:OwnS M.A w w11 ([obE b14 e.1 xk xc,tokE b11 x.1,obE b9 o vk vc,obE b6 ob0 nilS nilS,keyE vm' (met++[x.1.s])]++([keyE vk o.keys,kidE vc o.kids.length cs]++[.mem N2])):=ho;have ho:=ho.front.pair;refine dV (N8 o e.1 vk vc xk xc cs x.1.s N2.A N2.w w11 hds.len (hall.le hle2) hx.ov (by have:=hds.few;omega) hds.rise (fun h=>hnm (hds.sub _ h)) (ho.at_ 0 rfl)) ?_;rintro _ w12 ⟨vk',vc',cs',rfl,hov,ht⟩;have ho:=(ho.turn 0 rfl ht).split;have ho:OwnS M.A w w12 ([keyE vk' (Vl.put o x.1.s e.1).keys,kidE vc' (Vl.put o x.1.s e.1).kids.length cs']++([obE b14 e.1 xk xc,tokE b11 x.1,obE b9 o vk vc,obE b6 ob0 nilS nilS,keyE vm' (met++[x.1.s])]++[.mem N2])):=ho;have hvk':=bJ (ho.at_ 0 rfl);have hvc':=bJ (ho.at_ 1 rfl);have ho:=ho.front;refine bA (o':=Vl.put o x.1.s e.1) 2 hvk' hvc' ho rfl fun w13 ho=>?_;exact fin hov ho.tail.tail
 by_cases e3:x.1.k=6
 ·have e4:¬x.1.s=[62,62]:=fun h=>e2 ⟨e3,h⟩;simp only[decide_eq_true e3,rs,bK,tk_s ho 0 rfl,decide_eq_false e4,cS,tk_k ho 0 rfl];exact on
 ·simp only[decide_eq_false e3,rs,g_un,cS,tk_k ho 0 rfl];exact on
end
section
open Eng Go.RowKit
theorem SH {T:TypeId}{xo yo:Operand}{a b:List UInt8}{w:World}:(mEq .eql T xo yo (.string ⟨a.toArray⟩) (.string ⟨b.toArray⟩)).run prog w=.ok (.value (.bool (decide (a=b)))) w:=by
 refine cK ?_;have e:(a==b)=decide (a=b):=by by_cases h:a=b<;>simp[h]
 simp[eqGuard,binOp,Op.stringOp,fH,e]
theorem Ld (b:Bool)(w:World):Ret prog 79 #[.bool b] w (obR (ob1 1 (if b then 1 else 0) 0 []) nilS nilS w):=by
 refine aO fun K hK=>vV ?_;unfold gO;refine bU (Own.start w) fun b2 w1 ho=>?_;cases b with
|true=>
  rw[i_t];have hb:∀{PK:PKT} {K:VWP},DoX prog (aG 42 #[(0,(.int .i64 1)),(1,(.int .i64 1))]) w1 PK K=K (obV (ob1 1 1 0 []) nilS nilS) w1:=aT (by kernel_rfl);rw[hb];refine bA 0 rfl rfl ho rfl fun w2 ho=>?_;exact rY ho (hK _ _ ⟨rfl,ho.done⟩)
|false=>
  rw[i_f];have hb:∀{PK:PKT} {K:VWP},DoX prog (aG 42 #[(0,(.int .i64 1))]) w1 PK K=K (obV (ob1 1 0 0 []) nilS nilS) w1:=aT (by kernel_rfl);rw[hb];refine bA 0 rfl rfl ho rfl fun w2 ho=>?_;exact rY ho (hK _ _ ⟨rfl,ho.done⟩)
theorem HY {A:Nat→Prop}{w:World}{k n g:Int}{s:List UInt8}:OV A w (obV (ob1 k n g s) nilS nilS) (ob1 k n g s):=ObAt.ov (o:=ob1 k n g s) ⟨SlA.nil _ _ _ _,SlA.nil _ _ _ _,OVs.nil⟩
theorem NU (s:List UInt8)(hs:s.length≤1000000000):∀n:Nat,n≤24→RObj s n:=by
 intro n
 induction n with
|zero=>
  intro _ a M w hM;refine uL hM fun K hK=>iQ ?_;unfold dI;refine bU (OwnS.memS hM) fun b6 w1 ho=>?_;refine Bw ho (mR s a w1 (by omega)) fun b9 w2 ho=>?_;have fail:∀{W:World} (e:Int),OwnS M.A w W [tokE b9 (Lx.next s a).1,obE b6 ob0 nilS nilS,.mem M]→Ps.obj s 0 a=Ps.bad e →
    DoX prog (aG 42 #[]) W (pk K) (fun t W=>DoX prog (aD 42 (.pointer (some ⟨b6,0,none⟩)) t) W (pk K) fun _ W=>RetX prog [.cell (.pointer (some ⟨b6,0,none⟩)) 42,.val (.int .i64 0),.val (.int .i64 e)] W K):=by
   intro W e ho he;refine Bg 1 ho rfl fun w' ho=>?_;refine hK _ _ M _ 2 ho rfl M.le_refl ?_;rw[he];exact⟨_,rfl,xP⟩
  rw[Ps.obj] at fail;generalize Lx.next s a=x at *
  simp only[rs];by_cases e1:x.2=0
  case neg=>
   simp only[e1,ne_eq,not_false_eq_true,decide_true,rs];exact fail _ ho (if_pos e1)
  simp only[e1,ne_eq,not_true,decide_false,rs,cS,tk_k ho 0 rfl];by_cases e2:x.1.k=0
  ·simp only[decide_eq_true e2,rs];exact fail 4 ho (by rw[if_neg (by rw[e1];simp),if_pos e2])
  simp only[decide_eq_false e2,rs,tk_v ho 0 rfl];refine aS ho (R:=fun v=>v=.bool (Ps.bB x.1)) (Cw x.1 w2) ?_;rintro _ w3 rfl ho;cases e3:Ps.bB x.1 with
 |false=>
   simp only[rs,Bool.not_false,i_t];exact fail 3 ho (by rw[if_neg (by rw[e1];simp),if_neg e2,if_pos e3])
 |true=>
   simp only[rs,Bool.not_true,i_f,show decide ((24:Int) < 25 - ((0:Nat):Int))=true by decide];exact fail 7 ho (by rw[if_neg (by rw[e1];simp),if_neg e2,if_neg (by rw[e3];simp)])
|succ n ih=>
  intro hn a M w hM;have ih:=ih (by omega);refine uL hM fun K hK=>iQ ?_;unfold dI;refine bU (OwnS.memS hM) fun b6 w1 ho=>?_;refine Bw ho (mR s a w1 (by omega)) fun b9 w2 ho=>?_;have fail:∀{W:World} (e:Int),OwnS M.A w W [tokE b9 (Lx.next s a).1,obE b6 ob0 nilS nilS,.mem M]→Ps.obj s (n+1) a=Ps.bad e →
    DoX prog (aG 42 #[]) W (pk K) (fun t W=>DoX prog (aD 42 (.pointer (some ⟨b6,0,none⟩)) t) W (pk K) fun _ W=>RetX prog [.cell (.pointer (some ⟨b6,0,none⟩)) 42,.val (.int .i64 0),.val (.int .i64 e)] W K):=by
   intro W e ho he;refine Bg 1 ho rfl fun w' ho=>?_;refine hK _ _ M _ 2 ho rfl M.le_refl ?_;rw[he];exact⟨_,rfl,xP⟩
  have good:∀{W:World} {k m g t:Int} {z:List UInt8},OwnS M.A w W [tokE b9 (Lx.next s a).1,obE b6 (ob1 k m g z) nilS nilS,.mem M]→Ps.obj s (n+1) a=(ob1 k m g z,t,0) →
    RetX prog [.cell (.pointer (some ⟨b6,0,none⟩)) 42,.val (.int .i64 t),.val (.int .i64 0)] W K:=by
   intro W k m g t z ho he;refine BA (bC (ho.agg 1 rfl eU)) dR dR (hK _ _ M _ 2 ho rfl M.le_refl ?_);rw[he];exact⟨_,rfl,HY⟩
  have hbd:=@Lx.bV s a;have hfm:=@Lx.Ce s a;have hob:Ps.obj s (n+1) a=_:=Ps.obj.eq_def s (n+1) a;simp only at hob;rw[hob] at fail good;generalize Lx.next s a=x at *
  simp only[rs];by_cases e1:x.2=0
  case neg=>
   simp only[e1,ne_eq,not_false_eq_true,decide_true,rs];exact fail _ ho (if_pos e1)
  simp only[e1,ne_eq,not_true,decide_false,rs,cS,tk_k ho 0 rfl];by_cases e2:x.1.k=0
  ·simp only[decide_eq_true e2,rs];exact fail 4 ho (by rw[if_neg (by rw[e1];simp),if_pos e2])
  have hbd:=hbd e1 e2;have hfm:=hfm e1;simp only[decide_eq_false e2,rs,tk_v ho 0 rfl];refine aS ho (R:=fun v=>v=.bool (Ps.bB x.1)) (Cw x.1 w2) ?_;rintro _ w3 rfl ho;cases e3:Ps.bB x.1 with
 |false=>
   simp only[rs,Bool.not_false,i_t];exact fail 3 ho (by rw[if_neg (by rw[e1];simp),if_neg e2,if_pos e3])
 |true=>
  have hdeep:¬(24:Int) < 25 - ((n+1:Nat):Int):=by omega
  simp only[rs,Bool.not_true,i_f,decide_eq_false hdeep,cS,tk_k ho 0 rfl];simp only[if_neg (show ¬x.2≠0 by rw[e1];simp),if_neg e2,if_neg (show ¬Ps.bB x.1=false by rw[e3];simp)] at fail good hob;have hgood:∀{W:World} {k m g t:Int} {z:List UInt8},x.1.k≠6→OwnS M.A w W [tokE b9 x.1,obE b6 (ob1 k m g z) nilS nilS,.mem M]→Ps.leaf s x.1=(ob1 k m g z,t,0) →
    RetX prog [.cell (.pointer (some ⟨b6,0,none⟩)) 42,.val (.int .i64 t),.val (.int .i64 0)] W K:=fun h ho he=>good ho (by rw[if_pos h];exact he)
  have tail:∀{f:Nat} {args:Array Value} {k m g:Int} {z:List UInt8} {W:World} {PK1 PK2:PKT},x.1.k≠6→OwnS M.A w W [tokE b9 x.1,obE b6 ob0 nilS nilS,.mem M]→Ret prog f args W (obR (ob1 k m g z) nilS nilS W)→Ps.leaf s x.1=(ob1 k m g z,x.1.t,0) →
    CallX prog f args W PK1 fun t W=>(tokE b9 x.1).is W∧(DoX prog (aD 42 (.pointer (some ⟨b6,0,none⟩)) t) W PK2 fun _ W=>(tokE b9 x.1).is W∧(RetX prog [.cell (.pointer (some ⟨b6,0,none⟩)) 42,.val (.int .i64 x.1.t),.val (.int .i64 0)] W K)):=by
   intro f args k m g z W PK1 PK2 hk ho hr he;refine aS ho (R:=fun v=>v=obV (ob1 k m g z) nilS nilS) hr ?_;rintro _ W2 rfl ho;refine⟨ho.at_ 0 rfl,?_⟩;exact bA 1 rfl rfl ho rfl fun W3 ho=>⟨ho.at_ 0 rfl,hgood hk ho he⟩
  have rdt:∀W,(tokE b9 x.1).is W→(aB 3 (.pointer (some ⟨b9,2,none⟩))).run prog W=.ok (.value (.int .i64 x.1.t)) W:=fun W h=>aM nInt (aU (T:=53) (cs:=tokC x.1) (i:=2) h rfl);have rdn:∀W,(tokE b9 x.1).is W→(aB 2 (.pointer (some ⟨b9,3,none⟩))).run prog W=.ok (.value (.int .i64 x.1.n)) W:=fun W h=>aM nI65 (aU (T:=53) (cs:=tokC x.1) (i:=3) h rfl);have rds:∀W,(tokE b9 x.1).is W→(aB 9 (.pointer (some ⟨b9,4,none⟩))).run prog W=.ok (.value (.string ⟨x.1.s.toArray⟩)) W:=fun W h=>aM nStr (aU (T:=53) (cs:=tokC x.1) (i:=4) h rfl);rcases hfm.kind with k0|k1|k2|k3|k4|k5|k6
  ·exact absurd k0 e2
  ·have hk6:x.1.k≠6:=by omega
   have hleaf:Ps.leaf s x.1=match Ps.ref s x.1 with
   |some p=>(.mk 8 x.1.n p.1 [] [] [],p.2,0)
   |none=>(.mk 2 x.1.n 0 [] [] [],x.1.t,0):=by rw[Ps.leaf,if_pos k1];cases Ps.ref s x.1<;>rfl
   simp only[decide_eq_true k1,i_t,tk_v ho 0 rfl];refine aS ho (R:=fun v=>∃g e,v=.tuple #[.int .i64 g,.int .i64 e,.bool (Ps.ref s x.1).isSome]∧∀p,Ps.ref s x.1=some p→p=(g,e)) (QG s x.1 w3 (by omega)) ?_;rintro _ w4 ⟨g,e,rfl,hp⟩ ho;simp only[ex];cases hr:Ps.ref s x.1 with
  |some p=>
    have:=hp p hr;subst this;rw[hr] at hleaf;simp only[Option.isSome_some,i_t,tK,tk_n ho 0 rfl];refine aS ho (R:=fun v=>v=obV (ob1 8 x.1.n g []) nilS nilS) (Nw x.1.n g w4) ?_;rintro _ w5 rfl ho;refine bA 1 rfl rfl ho rfl fun w6 ho=>?_;exact hgood hk6 ho hleaf
  |none=>
    rw[hr] at hleaf;simp only[Option.isSome_none,i_f];have ho:=ho.drew;refine⟨fun W=>(tokE b9 x.1).is W,ho.at_ 0 rfl,?_⟩;refine aR _ (fun _=>aY ft3) (iB _ rdn (aR _ (fun _=>aY ft2) (iB _ rdt ?_)));exact tail hk6 ho (NP x.1.n _) hleaf
  ·have hk6:x.1.k≠6:=by omega
   simp only[k2,show ¬((2:Int)=1) by decide,decide_true,decide_false,rs];have ho:=ho.drew;refine⟨fun W=>(tokE b9 x.1).is W,ho.at_ 0 rfl,?_⟩;refine aR _ (fun _=>aY ft3) (iB _ rdn (aR _ (fun _=>aY ft2) (iB _ rdt ?_)));exact tail hk6 ho (KC x.1.n _) (by rw[Ps.leaf,if_neg (by omega),if_pos k2])
  ·have hk6:x.1.k≠6:=by omega
   simp only[k3,show ¬((3:Int)=1) by decide,show ¬((3:Int)=2) by decide,decide_true,decide_false,rs];have ho:=ho.drew;refine⟨fun W=>(tokE b9 x.1).is W,ho.at_ 0 rfl,?_⟩;refine aR _ (fun _=>aY ft4) (iB _ rds (aR _ (fun _=>aY ft2) (iB _ rdt ?_)));exact tail hk6 ho (Nu x.1.s _) (by rw[Ps.leaf,if_neg (by omega),if_neg (by omega),if_pos k3])
  ·have hk6:x.1.k≠6:=by omega
   simp only[k4,show ¬((4:Int)=1) by decide,show ¬((4:Int)=2) by decide,show ¬((4:Int)=3) by decide,decide_true,decide_false,rs];have ho:=ho.drew;refine⟨fun W=>(tokE b9 x.1).is W,ho.at_ 0 rfl,?_⟩;refine aR _ (fun _=>aY ft4) (iB _ rds (aR _ (fun _=>aY ft2) (iB _ rdt ?_)));exact tail hk6 ho (NZ x.1.s _) (by rw[Ps.leaf,if_neg (by omega),if_neg (by omega),if_neg (by omega),if_pos k4])
  ·have hk6:x.1.k≠6:=by omega
   simp only[k5,show ¬((5:Int)=1) by decide,show ¬((5:Int)=2) by decide,show ¬((5:Int)=3) by decide,show ¬((5:Int)=4) by decide,decide_true,decide_false,rs,bK,tk_s ho 0 rfl];by_cases hn:x.1.s=[110,117,108,108]
   ·simp only[decide_eq_true hn,i_t];have ho:=ho.drew;refine⟨fun W=>(tokE b9 x.1).is W,ho.at_ 0 rfl,?_⟩;refine aR (obV Vl.ob0 nilS nilS) (fun _=>by kernel_rfl) (aR _ (fun _=>aY ft2) (iB _ rdt ?_));refine bA (o':=Vl.ob0) 1 rfl rfl ho rfl fun w5 ho=>⟨ho.at_ 0 rfl,?_⟩;exact hgood (k:=0) (m:=0) (g:=0) (z:=[]) hk6 ho (by rw[Ps.leaf,if_neg (by omega),if_neg (by omega),if_neg (by omega),if_neg (by omega),if_pos (show x.1.s=Ps.nul from hn)];rfl)
   ·simp only[decide_eq_false hn,i_f];have ho:=ho.drew;refine⟨fun W=>(tokE b9 x.1).is W,ho.at_ 0 rfl,?_⟩;refine aR _ (fun _=>aY ft4) (iB _ rds (aR (.bool (decide (x.1.s=Ps.tru))) (fun _=>SH) (aR _ (fun _=>aY ft2) (iB _ rdt ?_))));refine tail hk6 ho (Ld _ _) ?_;rw[Ps.leaf,if_neg (by omega),if_neg (by omega),if_neg (by omega),if_neg (by omega),if_neg (show ¬x.1.s=Ps.nul from hn)];simp only[decide_eq_true_eq]
  ·have hs2:x.1.s=[91]∨x.1.s=[60,60]:=by
    unfold Ps.bB at e3;rw[if_pos k6] at e3;simpa using e3
   simp only[k6,show ¬((6:Int)=1) by decide,show ¬((6:Int)=2) by decide,show ¬((6:Int)=3) by decide,show ¬((6:Int)=4) by decide,show ¬((6:Int)=5) by decide,decide_true,decide_false,rs,bK,tk_s ho 0 rfl];rw[show (25:Int) - ((n+1:Nat):Int)=24 - (n:Int) by omega];have hge:=Lx.cO s a.toNat;have fin:∀{W:World} {N:Mem} {u:Value} {e:Ps.R},(if x.1.s=[91] then Ps.arr s (decide (n≠0)) (Ps.obj s n) (s.length+1) x.1.t [] else Ps.dict s (Ps.obj s n) (s.length+1) x.1.t Ps.aZ [])=e→M.le N→OV N.A N.w u e.1→OwnS M.A w W [tokE b9 x.1,obE b6 ob0 nilS nilS,.mem N] →
     DoX prog (aD 42 (.pointer (some ⟨b6,0,none⟩)) u) W (pk K) fun _ w=>RetX prog [.cell (.pointer (some ⟨b6,0,none⟩)) 42,.val (.int .i64 e.2.1),.val (.int .i64 e.2.2)] w K:=by
    intro W N u e he hle hu ho;obtain⟨xk,xc,xcs,rfl,hx⟩:=hu.open;refine bA 1 hx.keys.one hx.kids.one ho rfl fun W2 ho=>?_;refine BA (bC (ho.agg 1 rfl eU)) dR dR (hK _ _ N _ 2 ho rfl hle ?_);rw[hob,if_neg (show ¬x.1.k≠6 by rw[k6];simp),he];exact⟨_,rfl,hx.ov⟩
   rcases hs2 with h2|h2
   ·simp only[decide_eq_true h2,i_t,xH,tk_t ho 0 rfl];refine DP ho 2 rfl (Nb s n (by omega) hs ih x.1.t (by omega) (by omega) M w3 (ho.hasM 2 rfl)) ?_;rintro _ N w4 hle ⟨u,rfl,hu⟩ ho;simp only[ex];exact fin (if_pos h2) hle hu ho
   ·have h91:¬x.1.s=[91]:=by rw[h2];decide
    simp only[decide_eq_false h91,i_f,xH,tk_t ho 0 rfl];refine DP ho 2 rfl (Lp s n (by omega) hs ih x.1.t (by omega) (by omega) M w3 (ho.hasM 2 rfl)) ?_;rintro _ N w4 hle ⟨u,rfl,hu⟩ ho;simp only[ex];exact fin (if_neg h91) hle hu ho
theorem B4 (s:List UInt8)(a:Int)(hs:s.length≤1000000000)(M:Mem)(w:World)(hM:M.has w):RetM prog 22 #[.string ⟨s.toArray⟩,.int .i64 a] M w (objR (Ps.object s a)):=by
 refine uL hM fun K hK=>rJ ?_;unfold eO;refine bU (OwnS.memS hM) fun b4 w1 ho=>?_;have fail:a < 0∨(s.length:Int) < a→DoX prog (aG 42 #[]) w1 (pk K) (fun t W=>DoX prog (aD 42 (.pointer (some ⟨b4,0,none⟩)) t) W (pk K) fun _ W=>RetX prog [.cell (.pointer (some ⟨b4,0,none⟩)) 42,.val (.int .i64 0),.val (.int .i64 1)] W K):=by
  intro h;refine Bg 0 ho rfl fun w' ho=>?_;refine hK _ _ M _ 1 ho rfl M.le_refl ?_;rw[Ps.object,if_pos h];exact⟨_,rfl,xP⟩
 by_cases h1:a < 0
 ·simp only[rs,decide_eq_true h1,g_un];exact fail (.inl h1)
 by_cases h2:(s.length:Int) < a
 ·simp only[rs,decide_eq_false h1,bD Tryz.underlying9,decide_eq_true h2,g_un];exact fail (.inr h2)
 simp only[rs,decide_eq_false h1,bD Tryz.underlying9,decide_eq_false h2,g_un];refine DP ho 1 rfl (NU s hs 24 (by omega) a M w1 (ho.hasM 1 rfl)) ?_;rintro _ N w2 hle ⟨u,rfl,hu⟩ ho;obtain⟨xk,xc,xcs,rfl,hx⟩:=hu.open;simp only[ex];refine bA 0 hx.keys.one hx.kids.one ho rfl fun w3 ho=>?_;refine BA (bC (ho.agg 0 rfl eU)) dR dR (hK _ _ N _ 1 ho rfl hle ?_);rw[Ps.object,if_neg (by omega)];exact⟨_,rfl,hx.ov⟩
end
section
open Eng Go.RowKit
namespace Eng
theorem Ent.below {e:Ent}{w w':World}(h:e.is w)(hb:Below w.heap.size w w'):e.is w':=e.keep h fun k hk=>hb.block k (e.lt h k hk)
section
variable {S:Nat→Prop}{P:Program}{w w0:World}{L:List Ent}{PK:PKT}{K:VWP}
theorem c_rm {f:Nat}{args:Array Value}{e e':Ent}{M:Mem}{ok:Prop}{R:Value→Mem→Prop}{c:List PanicEntry}(ho:OwnS S w0 w L)(i:Nat)(hi:L[i]?=some (.two e (.mem M)))(h:Lent P f args e M w ok e' R c)
  (kr:∀v N w',ok→M.le N→R v N→OwnS S w0 w' (L.set i (.two e' (.mem N)))→K v w') (kp:∀e2 w',¬ok→OwnS S w0 w' (L.set i (.two e2 (.mem M)))→PK c w'):CallX P f args w PK K:=by
 by_cases hk:ok
 ·exact dV (h.ret hk) fun v w' ⟨N,hle,hr,ht⟩=>kr v N w' hk hle hr (ho.turn i hi ht)
 ·exact M7 (h.pan hk) fun c' w' ⟨hc,e2,ht⟩=>by subst hc;exact kp e2 w' hk (ho.turn i hi ht)
end
end Eng
def rdC (s:List UInt8)(a:Int):List Value:=[.string ⟨s.toArray⟩,.int .i64 a]
abbrev rdE (b:Nat)(s:List UInt8)(a:Int):Ent:=.cells b (rdC s a) 144
abbrev rmE (b:Nat)(s:List UInt8)(a:Int)(M:Mem):Ent:=.two (rdE b s a) (.mem M)
abbrev rdP (b:Nat):Value:=.pointer (some ⟨b,0,none⟩)
def pZ (e:Int):PanicEntry:={ v:=.iface 203 (.int .i64 e),recovered:=false }
theorem fr0:fOff prog 144 0=some 0:=by kernel_rfl
theorem fr1:fOff prog 144 1=some 1:=by kernel_rfl
theorem nfW:lG prog 203=true:=by kernel_rfl
section
variable {w:World}{PK:PKT}{K:VWP}{S:Nat→Prop}{w0:World}{L:List Ent}
theorem Wo {b:Nat}:DoX prog (mFA 144 (.pointer (some ⟨b,0,none⟩)) 0) w PK K=K (.pointer (some ⟨b,0,none⟩)) w:=cF fr0
theorem UY {b:Nat}:DoX prog (mFA 144 (.pointer (some ⟨b,0,none⟩)) 1) w PK K=K (.pointer (some ⟨b,1,none⟩)) w:=cF fr1
theorem rd_s {b:Nat}{s:List UInt8}{a:Int}(h:(rdE b s a).is w):DoX prog (aB 9 (.pointer (some ⟨b,0,none⟩))) w PK K=K (.string ⟨s.toArray⟩) w:=aW mZ (aU (T:=144) (cs:=rdC s a) (i:=0) h rfl)
theorem Ww {b:Nat}{s:List UInt8}{a:Int}(h:(rdE b s a).is w):(aB 9 (.pointer (some ⟨b,0,none⟩))).run prog w=.ok (.value (.string ⟨s.toArray⟩)) w:=aM mZ (aU (T:=144) (cs:=rdC s a) (i:=0) h rfl)
theorem Vj {b:Nat}{s:List UInt8}{a:Int}(h:(rdE b s a).is w):(aB 3 (.pointer (some ⟨b,1,none⟩))).run prog w=.ok (.value (.int .i64 a)) w:=aM F2 (aU (T:=144) (cs:=rdC s a) (i:=1) h rfl)
theorem SM (i:Nat){b:Nat}{s:List UInt8}{a a':Int}(ho:OwnS S w0 w L)(hi:L[i]?=some (rdE b s a))(k:∀w',OwnS S w0 w' (L.set i (rdE b s a'))→K undef w'):DoX prog (aD 3 (.pointer (some ⟨b,1,none⟩)) (.int .i64 a')) w PK K:=
 bI i ho hi (by kernel_rfl) rfl (show 1 < 2 by omega) k
theorem throw {e:Int}{K2:Value→VWP}{PK2:PKT}(h:PK2 [pZ e] w):DoX prog (pU 203 (.int .i64 e)) w PK fun t w=>DoX prog (iT t) w PK2 (K2 t):=by
 rw[Jg nfW,HQ];exact h
end
theorem L9 (b:Nat)(s:List UInt8)(a at_:Int)(w:World)(hs:s.length≤1099511627776)(hr:(rdE b s a).is w) :
  Ret prog 208 #[rdP b,.int .i64 at_] w (fun v w'=>v=.tuple #[tokV (Lx.next s at_).1,.bool (decide ((Lx.next s at_).2=0))]∧Below w.heap.size w w'):=by
 refine aO fun K hK=>wN ?_;unfold gU;refine jY (Own.start w) fun b4 w1 ho=>?_;rw[Nq,Wo,rd_s (Ent.below (e:=rdE b s a) hr ho.done)];refine Bw ho (zR s at_ w1 hs) fun b6 w2 ho=>?_;rw[tk_v ho 0 rfl];simp only[rs];refine nI 1 ho rfl fun w3 ho=>?_;exact uU (bC (ho.agg 1 rfl DJ)) dR (hK _ _ ⟨rfl,ho.done⟩)
def Has (s:List UInt8)(a:Int):Prop:=(Lx.next s a).2=0∧(Lx.next s a).1.k≠0
def CQ (s:List UInt8)(a:Int):Int:=if (Lx.next s a).2≠0 then (Lx.next s a).2 else 4
theorem BR (b:Nat)(s:List UInt8)(a:Int)(M:Mem)(w:World)(hs:s.length≤1099511627776)(hr:(rmE b s a M).is w) :
  Lent prog 151 #[rdP b] (rdE b s a) M w (Has s a) (rdE b s (Lx.next s a).1.t) (fun v N=>v=tokV (Lx.next s a).1) [pZ (CQ s a)]:=by
 refine qD (fun K ho hret hpan=>wC ?_) hr;unfold gT;refine jY ho fun b2 w1 ho=>?_;have two:∀{W:World} {b3:Nat},OwnS (rmE b s a M).blk w W [tokE b3 (Lx.next s a).1,tokE b2 Lx.none_,rdE b s a,.mem M]→dK (rdP b) (.pointer (some ⟨b2,0,none⟩)) (.pointer (some ⟨b3,0,none⟩)) (.int .i64 (Lx.next s a).2) W K:=by
  intro W b3 ho;have bad:∀{e:Int},¬Has s a→CQ s a=e→K (.panicked [pZ e]) W:=by
   intro e hn he;subst he;exact hpan hn (rdE b s a) M W _ (ho.tail.tail) M.le_refl
  unfold Has CQ at *;generalize Lx.next s a=x at *
  unfold dK;refine join fun J hJ=>?_;simp only[rs];by_cases e1:x.2=0
  case neg=>
   simp only[e1,ne_eq,not_false_eq_true,decide_true,i_t];exact throw (bad (fun h=>e1 h.1) (if_pos e1))
  simp only[e1,ne_eq,not_true,decide_false,i_f];refine hJ _ _ fun _=>?_;unfold lY;refine join fun J hJ=>?_;rw[cS,tk_k ho 0 rfl];simp only[rs];by_cases e2:x.1.k=0
  ·simp only[e2,decide_true,i_t];exact throw (bad (fun h=>h.2 e2) (if_neg (by rw[e1];simp)))
  simp only[e2,decide_false,i_f];refine hJ _ _ fun _=>?_;unfold mK;rw[xH,tk_t ho 0 rfl,Nq,UY];refine SM 2 ho rfl fun w2 ho=>?_;have ho:OwnS (rmE b s a M).blk w w2 [tokE b3 x.1,tokE b2 Lx.none_,rdE b s x.1.t,.mem M]:=ho;rw[tk_v ho 0 rfl];refine nI 1 ho rfl fun w3 ho=>?_;refine iW (bC (ho.agg 1 rfl DJ)) ?_;have ho:OwnS (rmE b s a M).blk w w3 ([tokE b3 x.1,tokE b2 x.1]++([rdE b s x.1.t,.mem M]++[])):=ho;exact hret ⟨e1,e2⟩ _ M w3 _ ho.front M.le_refl rfl
 have ho:=ho.drew;refine⟨fun W=>(rdE b s a).is W,ho.at_ 1 rfl,?_⟩;refine aR _ (fun _=>dT) (aR _ (fun _=>aY fr0) (iB _ (fun W h=>Ww h) ?_));refine aR _ (fun _=>dT) (aR _ (fun _=>aY fr1) (iB _ (fun W h=>Vj h) ?_));refine⟨?_,?_⟩
 ·refine aS ho (R:=fun v=>v=tokR (Lx.next s a)) (zR s a _ hs) ?_;rintro _ w2 rfl ho;refine aR _ (fun _=>BN) (aR _ (fun _=>BE) ?_);refine jY ho fun b3 w3 ho=>⟨ho.at_ 2 rfl,?_⟩;refine nI 0 ho rfl fun w4 ho=>?_;exact two ho
 ·refine jY ho fun b3 w3 ho=>⟨ho.at_ 2 rfl,?_⟩;refine aS ho (R:=fun v=>v=tokR (Lx.next s a)) (zR s a _ hs) ?_;rintro _ w2 rfl ho;refine aR _ (fun _=>BN) (aR _ (fun _=>BE) ?_);refine nI 0 ho rfl fun w4 ho=>?_;exact two ho
end
section
open Eng
def xJ (t0:Value)(w:World)(K:Ending→World→Prop):Prop:=
 DoX prog (aN 42) w (pk K) fun t2 w=>
 DoX prog (aG 42 #[(0,(.int .i64 3)),(1,t0)]) w (pk K) fun t4 w=>
 DoX prog (aD 42 t2 t4) w (pk K) fun _ w=>
 RetX prog [.cell t2 42] w K
theorem FF (t0:Value)(w:World)(K:Ending→World→Prop):wpX prog 5 [] [] none (aK Tryz.f176) (topQ prog [.cell 2 42] K) (aJ [t0]) [] w=xJ t0 w K:=by kernel_rfl
theorem Fp {t0:Value}{w:World}{K:Ending→World→Prop}(h:xJ t0 w K):Calls prog 176 #[t0] w K:=
 aA Tryz.func176 rfl rfl rfl rfl (Eq.mpr (FF t0 w K) h)
def Bj (t0 t1:Value)(w:World)(K:Ending→World→Prop):Prop:=
 DoX prog (aN 42) w (pk K) fun t4 w=>
 DoX prog (aG 42 #[(0,(.int .i64 8)),(1,t0),(2,t1)]) w (pk K) fun t7 w=>
 DoX prog (aD 42 t4 t7) w (pk K) fun _ w=>
 RetX prog [.cell t4 42] w K
theorem GV (t0 t1:Value)(w:World)(K:Ending→World→Prop):wpX prog 8 [] [] none (aK Tryz.f210) (topQ prog [.cell 4 42] K) (aJ [t0,t1]) [] w=Bj t0 t1 w K:=by kernel_rfl
theorem GL {t0 t1:Value}{w:World}{K:Ending→World→Prop}(h:Bj t0 t1 w K):Calls prog 210 #[t0,t1] w K:=
 aA Tryz.func210 rfl rfl rfl rfl (Eq.mpr (GV t0 t1 w K) h)
def Au (t2 t3:Value)(w:World)(K:Ending→World→Prop):Prop:=
 DoX prog (aB 42 t3) w (pk K) fun t7 w=>
 DoX prog (aD 42 t2 t7) w (pk K) fun _ w=>
 RetX prog [.cell t2 42] w K
def yA (t0:Value)(w:World)(K:Ending→World→Prop):Prop:=
 DoX prog (aN 42) w (pk K) fun t2 w=>
 DoX prog (aG 42 #[(0,(.int .i64 1))]) w (pk K) fun t4 w=>
 DoX prog (aN 42) w (pk K) fun t3 w=>
 DoX prog (aD 42 t3 t4) w (pk K) fun _ w=>
 JoinX (fun J1=>
 IfX t0 (DoX prog (mFA 42 t3 1) w (pk K) fun t6 w=>
 DoX prog (aD 2 t6 (.int .i64 1)) w (pk K) fun _ w=>
 J1 [] w) (J1 [] w)) (fun vs1 w=>∀_:Sg,Au t2 t3 w K)
theorem F3 (t0:Value)(w:World)(K:Ending→World→Prop):wpX prog 8 [(4,[])] [] none (aK Tryz.f180) (topQ prog [.cell 2 42] K) (aJ [t0]) [] w=yA t0 w K:=by kernel_rfl
theorem FV {t0:Value}{w:World}{K:Ending→World→Prop}(h:yA t0 w K):Calls prog 180 #[t0] w K:=
 aA Tryz.func180 rfl rfl rfl rfl (Eq.mpr (F3 t0 w K) h)
end
section
open Eng Go.RowKit
theorem Pm (n:Int)(w:World):Ret prog 176 #[.int .i64 n] w (obR (ob1 3 n 0 []) nilS nilS w):=by
 refine aO fun K hK=>Fp ?_;unfold xJ;refine bU (Own.start w) fun b w1 ho=>?_;have hb:∀{PK:PKT} {K:VWP},DoX prog (aG 42 #[(0,(.int .i64 3)),(1,.int .i64 n)]) w1 PK K=K (obV (ob1 3 n 0 []) nilS nilS) w1:=aT (by kernel_rfl);rw[hb];refine bA 0 rfl rfl ho rfl fun w2 ho=>?_;exact rY ho (hK _ _ ⟨rfl,ho.done⟩)
theorem RX (n g:Int)(w:World):Ret prog 210 #[.int .i64 n,.int .i64 g] w (obR (ob1 8 n g []) nilS nilS w):=by
 refine aO fun K hK=>GL ?_;unfold Bj;refine bU (Own.start w) fun b w1 ho=>?_;have hb:∀{PK:PKT} {K:VWP},DoX prog (aG 42 #[(0,(.int .i64 8)),(1,.int .i64 n),(2,.int .i64 g)]) w1 PK K=K (obV (ob1 8 n g []) nilS nilS) w1:=aT (by kernel_rfl);rw[hb];refine bA 0 rfl rfl ho rfl fun w2 ho=>?_;exact rY ho (hK _ _ ⟨rfl,ho.done⟩)
theorem PC (b:Bool)(w:World):Ret prog 180 #[.bool b] w (obR (ob1 1 (if b then 1 else 0) 0 []) nilS nilS w):=by
 refine aO fun K hK=>FV ?_;unfold yA;refine bU (Own.start w) fun b2 w1 ho=>?_;have hb:∀{PK:PKT} {K:VWP},DoX prog (aG 42 #[(0,(.int .i64 1))]) w1 PK K=K (obV (ob1 1 0 0 []) nilS nilS) w1:=aT (by kernel_rfl);rw[hb];refine bU ho fun b3 w2 ho=>?_;refine bA (o':=ob1 1 0 0 []) (vk':=nilS) (vc':=nilS) 0 rfl rfl ho rfl fun w3 ho=>?_;refine join fun J hJ=>?_;have fin:∀{W:World} {n:Int},Own w W [obE b3 (ob1 1 n 0 []) nilS nilS,obE b2 ob0 nilS nilS]→n=(if b then 1 else 0)→J [] W:=by
  intro W n ho hn;refine hJ _ _ fun _=>?_;unfold Au;rw[ob_v ho 0 rfl];refine bA 1 rfl rfl ho rfl fun w4 ho=>?_;exact iW (bC (ho.agg 1 rfl eU)) (hK _ _ ⟨by rw[hn];rfl,ho.done⟩)
 cases b with
|true=>
  rw[i_t,IQ];exact bI 0 ho rfl (by kernel_rfl) rfl (show 0+1 < 6 by omega) fun w4 ho=>fin (n:=1) ho rfl
|false=>
  rw[i_f];exact fin (n:=0) ho rfl
def pend (s:List UInt8)(t:Lx.Tok)(a:Int):Int:=match Ps.ref s t with|some p=>p.2|none=>a
def refO (s:List UInt8)(t:Lx.Tok):Ob:=match Ps.ref s t with|some p=>ob1 8 t.n p.1 []|none=>ob1 0 0 0 []
theorem Ro (b:Nat)(s:List UInt8)(t:Lx.Tok)(a:Int)(M:Mem)(w:World)(hs:s.length≤1099511627776)(hr:(rmE b s a M).is w) :
  Lent prog 174 #[rdP b,tokV t] (rdE b s a) M w True (rdE b s (pend s t a)) (fun v N=>v=.tuple #[obV (refO s t) nilS nilS,.bool (Ps.ref s t).isSome]) []:=by
 refine qD (fun K ho hret hpan=>wZ ?_) hr;clear hpan;have hret:=hret trivial;unfold jK;refine G1 t ho fun b3 w1 ho=>?_;refine bU ho fun b4 w2 ho=>?_;have no:∀{W:World} {L:List Ent} {o:Ob} (i:Nat),OwnS (rmE b s a M).blk w W (L++([rdE b s a,.mem M]++[]))→L[i]?=some (obE b4 o nilS nilS)→Ps.ref s t=none →
   DoX prog (aG 42 #[]) W (pk K) (fun t W=>DoX prog (aD 42 (.pointer (some ⟨b4,0,none⟩)) t) W (pk K) fun _ W=>RetX prog [.cell (.pointer (some ⟨b4,0,none⟩)) 42,.val (.bool false)] W K):=by
  intro W L o i ho hi hn;rw[TZ];have hil:i < L.length:=(List.getElem?_eq_some_iff.1 hi).1;refine bA i rfl rfl ho (by rw[List.getElem?_append_left hil];exact hi) fun w' ho=>?_;rw[List.set_append_left _ _ hil] at ho;refine uU (bC (ho.agg (cs:=obC Vl.ob0 nilS nilS) i (by rw[List.getElem?_append_left (by simp;omega)];simp[hil];rfl) eU)) dR ?_;refine hret _ M w' (L.set i (obE b4 Vl.ob0 nilS nilS)++[]) ?_ M.le_refl ?_
  ·rw[pend,hn];exact ho.front
  ·rw[refO,hn];rfl
 have hpend:=(rfl:pend s t a=pend s t a);unfold pend at hpend;have hrefO:refO s t=_:=rfl;by_cases h1:t.n < 1∨8191 < t.n
 ·have hr:Ps.ref s t=none:=by rw[Ps.ref,if_pos h1]
  by_cases h2:t.n < 1
  ·simp only[rs,tK,tk_n ho 1 rfl,decide_eq_true h2,g_un];exact no (L:=[_,_]) 0 ho rfl hr
  ·have h3:8191 < t.n:=by omega
   simp only[rs,tK,tk_n ho 1 rfl,decide_eq_false h2,decide_eq_true h3,g_un];exact no (L:=[_,_]) 0 ho rfl hr
 have h2:¬t.n < 1:=by omega
 have h3:¬8191 < t.n:=by omega
 simp only[rs,tK,xH,tk_n ho 1 rfl,tk_t ho 1 rfl,decide_eq_false h2,decide_eq_false h3,g_un];refine aS ho (R:=fun v=>v=.tuple #[tokV (Lx.next s t.t).1,.bool (decide ((Lx.next s t.t).2=0))]) (L9 b s a t.t w2 hs (ho.at_ 2 rfl)) ?_;rintro _ w3 rfl ho;simp only[ex];refine jY ho fun b6 w4 ho=>?_;refine nI 0 ho rfl fun w5 ho=>?_;have ho:OwnS (rmE b s a M).blk w w5 [tokE b6 (Lx.next s t.t).1,obE b4 ob0 nilS nilS,tokE b3 t,rdE b s a,.mem M]:=ho;by_cases h4:(Lx.next s t.t).2≠0∨(Lx.next s t.t).1.k≠1∨(Lx.next s t.t).1.n < 0∨65535 < (Lx.next s t.t).1.n
 ·have hr:Ps.ref s t=none:=by rw[Ps.ref,if_neg h1,if_pos h4]
  have no':=no (W:=w5) (L:=[_,_,_]) 1 ho rfl hr;by_cases q1:(Lx.next s t.t).2=0
  ·by_cases q2:(Lx.next s t.t).1.k=1
   ·by_cases q3:(Lx.next s t.t).1.n < 0
    ·simp only[rs,cS,tK,tk_k ho 0 rfl,tk_n ho 0 rfl,q1,q2,q3,ne_eq,not_true,decide_true,decide_false,g_un,Bool.not_true];exact no'
    ·have q4:65535 < (Lx.next s t.t).1.n:=by
      rcases h4 with h|h|h|h
      ·exact absurd q1 h
      ·exact absurd q2 h
      ·exact absurd h q3
      ·exact h
     simp only[rs,cS,tK,tk_k ho 0 rfl,tk_n ho 0 rfl,q1,q2,q3,q4,ne_eq,not_true,decide_true,decide_false,g_un,Bool.not_true];exact no'
   ·simp only[rs,cS,tK,tk_k ho 0 rfl,tk_n ho 0 rfl,q1,q2,ne_eq,not_true,not_false_eq_true,decide_true,decide_false,g_un,Bool.not_true];exact no'
  ·simp only[rs,cS,tK,tk_k ho 0 rfl,tk_n ho 0 rfl,q1,ne_eq,not_true,not_false_eq_true,decide_true,decide_false,g_un,Bool.not_false];exact no'
 have q:(Lx.next s t.t).2=0∧(Lx.next s t.t).1.k=1∧¬(Lx.next s t.t).1.n < 0∧¬65535 < (Lx.next s t.t).1.n:=by
  refine⟨?_,?_,?_,?_⟩
  ·exact Classical.not_not.1 fun h=>h4 (.inl h)
  ·exact Classical.not_not.1 fun h=>h4 (.inr (.inl h))
  ·exact fun h=>h4 (.inr (.inr (.inl h)))
  ·exact fun h=>h4 (.inr (.inr (.inr h)))
 obtain⟨q1,q2,q3,q4⟩:=q;simp only[rs,cS,xH,tK,tk_k ho 0 rfl,tk_n ho 0 rfl,tk_t ho 0 rfl,q1,q2,q3,q4,ne_eq,not_true,decide_true,decide_false,g_un,Bool.not_true];refine aS ho (R:=fun v=>v=.tuple #[tokV (Lx.next s (Lx.next s t.t).1.t).1,.bool (decide ((Lx.next s (Lx.next s t.t).1.t).2=0))]) (L9 b s a (Lx.next s t.t).1.t w5 hs (ho.at_ 3 rfl)) ?_;rintro _ w6 rfl ho;simp only[ex];refine jY ho fun b8 w7 ho=>?_;refine nI 0 ho rfl fun w8 ho=>?_;have hr:Ps.ref s t=if (Lx.next s (Lx.next s t.t).1.t).2=0∧(Lx.next s (Lx.next s t.t).1.t).1.k=5∧(Lx.next s (Lx.next s t.t).1.t).1.s=[82] then some ((Lx.next s t.t).1.n,(Lx.next s (Lx.next s t.t).1.t).1.t) else none:=by
  rw[Ps.ref,if_neg h1,if_neg h4]
 generalize Lx.next s (Lx.next s t.t).1.t=x at *
 have ho:OwnS (rmE b s a M).blk w w8 [tokE b8 x.1,tokE b6 (Lx.next s t.t).1,obE b4 ob0 nilS nilS,tokE b3 t,rdE b s a,.mem M]:=ho;by_cases e1:x.2=0
 case neg=>
  simp only[e1,decide_false,rs,g_un,Bool.not_false];exact no (L:=[_,_,_,_]) 2 ho rfl (by rw[hr,if_neg (fun h=>e1 h.1)])
 simp only[e1,decide_true,rs,g_un,Bool.not_true,tk_v ho 0 rfl];refine aS ho (R:=fun v=>v=.bool (decide (x.1.k=5)&&decide (x.1.s=[82]))) (Fi x.1 5 [82] w8) ?_;rintro _ w9 rfl ho;cases e2:(decide (x.1.k=5)&&decide (x.1.s=[82])) with
|false=>
  simp only[rs,Bool.not_false];have hnr:¬(x.2=0∧x.1.k=5∧x.1.s=[82]):=fun h=>by
   rw[decide_eq_true h.2.1,decide_eq_true h.2.2] at e2;exact absurd e2 (by decide)
  exact no (L:=[_,_,_,_]) 2 ho rfl (by rw[hr,if_neg hnr])
|true=>
  simp only[Bool.and_eq_true,decide_eq_true_eq] at e2;rw[if_pos ⟨e1,e2.1,e2.2⟩] at hr;simp only[rs,Bool.not_true,xH,tk_t ho 0 rfl,Nq,UY];refine SM 4 ho rfl fun w10 ho=>?_;have ho:OwnS (rmE b s a M).blk w w10 [tokE b8 x.1,tokE b6 (Lx.next s t.t).1,obE b4 ob0 nilS nilS,tokE b3 t,rdE b s x.1.t,.mem M]:=ho;rw[tk_n ho 3 rfl,tk_n ho 1 rfl];refine aS ho (R:=fun v=>v=obV (ob1 8 t.n (Lx.next s t.t).1.n []) nilS nilS) (RX t.n (Lx.next s t.t).1.n w10) ?_;rintro _ w11 rfl ho;refine bA 2 rfl rfl ho rfl fun w12 ho=>?_;refine uU (bC (ho.agg 2 rfl eU)) dR ?_;have ho:OwnS (rmE b s a M).blk w w12 ([tokE b8 x.1,tokE b6 (Lx.next s t.t).1,obE b4 (ob1 8 t.n (Lx.next s t.t).1.n []) nilS nilS,tokE b3 t]++([rdE b s x.1.t,.mem M]++[])):=ho;have hf:=ho.front;rw[←show pend s t a=x.1.t by rw[pend,hr]] at hf;exact hret _ M w12 _ hf M.le_refl (by rw[refO,hr];rfl)
def PObj (s:List UInt8)(n:Nat):Prop:=∀(b:Nat) (a:Int) (M:Mem) (w:World),Has s a→(rmE b s (Lx.next s a).1.t M).is w →
 Lent prog 150 #[rdP b,tokV (Lx.next s a).1,.int .i64 (24 - (n:Int))] (rdE b s (Lx.next s a).1.t) M w ((Ps.obj s n a).2.2=0) (rdE b s (Ps.obj s n a).2.1) (fun v N=>OV N.A N.w v (Ps.obj s n a).1) [pZ (Ps.obj s n a).2.2]
def PArr (s:List UInt8)(n:Nat):Prop:=∀(b:Nat) (a:Int) (M:Mem) (w:World),0≤a→a≤s.length→(rmE b s a M).is w →
 Lent prog 181 #[rdP b,.int .i64 (24 - (n:Int))] (rdE b s a) M w ((Ps.arr s (decide (n≠0)) (Ps.obj s n) (s.length+1) a []).2.2=0) (rdE b s (Ps.arr s (decide (n≠0)) (Ps.obj s n) (s.length+1) a []).2.1) (fun v N=>OV N.A N.w v (Ps.arr s (decide (n≠0)) (Ps.obj s n) (s.length+1) a []).1) [pZ (Ps.arr s (decide (n≠0)) (Ps.obj s n) (s.length+1) a []).2.2]
def UI (s:List UInt8)(n:Nat):Prop:=∀(b:Nat) (a:Int) (M:Mem) (w:World),0≤a→a≤s.length→(rmE b s a M).is w →
 Lent prog 182 #[rdP b,.int .i64 (24 - (n:Int))] (rdE b s a) M w ((Ps.dict s (Ps.obj s n) (s.length+1) a Ps.aZ []).2.2=0) (rdE b s (Ps.dict s (Ps.obj s n) (s.length+1) a Ps.aZ []).2.1) (fun v N=>OV N.A N.w v (Ps.dict s (Ps.obj s n) (s.length+1) a Ps.aZ []).1) [pZ (Ps.dict s (Ps.obj s n) (s.length+1) a Ps.aZ []).2.2]
end
section
open Eng Go.RowKit
theorem FZ {s:List UInt8}{n:Nat}{a:Int}(h:¬Has s a):Ps.obj s n a=Ps.bad (CQ s a):=by
 unfold Has at h;unfold CQ;cases n
 all_goals
  rw[Ps.obj];by_cases e1:(Lx.next s a).2=0
  ·have e2:(Lx.next s a).1.k=0:=Classical.not_not.1 fun h2=>h ⟨e1,h2⟩;rw[if_neg (by rw[e1];simp),if_pos e2,if_neg (by rw[e1];simp)]
  ·rw[if_pos e1,if_pos e1]
theorem rN {s:List UInt8}{a:Int}:CQ s a≠0:=by
 unfold CQ;split
 ·assumption
 ·decide
theorem Rh (s:List UInt8)(hs:s.length≤1000000000)(harr:∀n,n≤23→PObj s n→PArr s n)(hdict:∀n,n≤23→PObj s n→UI s n):∀n:Nat,n≤24→PObj s n:=by
 intro n
 induction n with
|zero=>
  intro _ b a M w hh hr;have hob:Ps.obj s 0 a=_:=Ps.obj.eq_def s 0 a;simp only at hob;refine qD (fun K ho hret hpan=>iR ?_) hr;unfold dH;refine G1 _ ho fun b4 w1 ho=>?_;refine bU ho fun b6 w2 ho=>?_;clear hret;obtain⟨e1,e2⟩:=hh;generalize Ps.obj s 0 a=R at *;generalize Lx.next s a=x at *
  rw[if_neg (by rw[e1];simp),if_neg e2] at hob;refine join fun J hJ=>?_;rw[tk_v ho 1 rfl];refine aS ho (R:=fun v=>v=.bool (Ps.bB x.1)) (Cn x.1 w2 e2) ?_;rintro _ w3 rfl ho;have fail:∀{e:Int},R=Ps.bad e→e≠0→∀{W:World},OwnS (rmE b s x.1.t M).blk w W [obE b6 ob0 nilS nilS,tokE b4 x.1,rdE b s x.1.t,.mem M]→K (.panicked [pZ e]) W:=by
   intro e he h0 W ho;subst he;exact hpan h0 _ M W _ ho.tail.tail M.le_refl
  cases e3:Ps.bB x.1 with
 |false=>
   simp only[rs,Bool.not_false,i_t];rw[if_pos e3] at hob;exact throw (fail hob (by decide) ho)
 |true=>
   simp only[rs,Bool.not_true,i_f];rw[if_neg (by rw[e3];simp)] at hob;refine hJ _ _ fun _=>?_;unfold dX;refine join fun J hJ=>?_;simp only[rs,show decide ((24:Int)≤24 - ((0:Nat):Int))=true by decide];exact throw (fail hob (by decide) ho)
|succ n ih=>
  intro hn b a M w hh hr;have ih:=ih (by omega);have harr:=harr n (by omega) ih;have hdict:=hdict n (by omega) ih;have hob:Ps.obj s (n+1) a=_:=Ps.obj.eq_def s (n+1) a;simp only at hob;refine qD (fun K ho hret hpan=>iR ?_) hr;unfold dH;refine G1 _ ho fun b4 w1 ho=>?_;refine bU ho fun b6 w2 ho=>?_;obtain⟨e1,e2⟩:=hh;have hbd:=@Lx.bV s a e1 e2;have hfm:=@Lx.Ce s a e1;have hge:=Lx.cO s a.toNat;generalize hR:Ps.obj s (n+1) a=R at *;clear hR;generalize Lx.next s a=x at *
  rw[if_neg (by rw[e1];simp),if_neg e2] at hob;refine join fun J hJ=>?_;rw[tk_v ho 1 rfl];refine aS ho (R:=fun v=>v=.bool (Ps.bB x.1)) (Cn x.1 w2 e2) ?_;rintro _ w3 rfl ho;have fail:∀{e:Int},R=Ps.bad e→e≠0→∀{W:World},OwnS (rmE b s x.1.t M).blk w W [obE b6 ob0 nilS nilS,tokE b4 x.1,rdE b s x.1.t,.mem M]→K (.panicked [pZ e]) W:=by
   intro e he h0 W ho;subst he;exact hpan h0 _ M W _ ho.tail.tail M.le_refl
  cases e3:Ps.bB x.1 with
 |false=>
   simp only[rs,Bool.not_false,i_t];rw[if_pos e3] at hob;exact throw (fail hob (by decide) ho)
 |true=>
  simp only[rs,Bool.not_true,i_f];rw[if_neg (by rw[e3];simp)] at hob;refine hJ _ _ fun _=>?_;unfold dX;refine join fun J hJ=>?_;have hdeep:¬(24:Int)≤24 - ((n+1:Nat):Int):=by omega
  simp only[rs,decide_eq_false hdeep];refine hJ _ _ fun _=>?_;unfold jF;simp only[rs,cS,tk_k ho 1 rfl]
  -- what is returned
  have good:∀{W:World} {L:List Ent} {k m g t:Int} {z:List UInt8} (j:Nat),OwnS (rmE b s x.1.t M).blk w W (L++([rdE b s t,.mem M]++[]))→L[j]?=some (obE b6 (ob1 k m g z) nilS nilS)→R=(ob1 k m g z,t,0)→RetX prog [.cell (.pointer (some ⟨b6,0,none⟩)) 42] W K:=by
   intro W L k m g t z j ho hj he;have hjl:j < L.length:=(List.getElem?_eq_some_iff.1 hj).1;refine iW (bC (ho.agg (cs:=obC (ob1 k m g z) nilS nilS) j (by rw[List.getElem?_append_left hjl];exact hj) eU)) ?_;subst he;exact hret rfl _ M W _ ho.front M.le_refl HY
  have tail:∀{f:Nat} {args:Array Value} {k m g:Int} {z:List UInt8} {W:World} {L:List Ent} {PK1 PK2:PKT} {o:Ob} {vk vc:Value} (j:Nat),OwnS (rmE b s x.1.t M).blk w W (L++([rdE b s x.1.t,.mem M]++[]))→L[j]?=some (obE b6 o vk vc)→Ret prog f args W (obR (ob1 k m g z) nilS nilS W)→R=(ob1 k m g z,x.1.t,0) →
    CallX prog f args W PK1 fun t W=>DoX prog (aD 42 (.pointer (some ⟨b6,0,none⟩)) t) W PK2 fun _ W=>RetX prog [.cell (.pointer (some ⟨b6,0,none⟩)) 42] W K:=by
   intro f args k m g z W L PK1 PK2 o vk vc j ho hj hr he;have hjl:j < L.length:=(List.getElem?_eq_some_iff.1 hj).1;refine aS ho (R:=fun v=>v=obV (ob1 k m g z) nilS nilS) hr ?_;rintro _ W2 rfl ho;refine bA (o':=ob1 k m g z) (vk':=nilS) (vc':=nilS) j rfl rfl ho (by rw[List.getElem?_append_left hjl];exact hj) fun W3 ho=>?_;rw[List.set_append_left _ _ hjl] at ho;exact good j ho (by simp[hjl]) he
  have hleafR:x.1.k≠6→R=Ps.leaf s x.1:=fun h=>by rw[hob,if_pos h]
  rcases hfm.kind with k0|k1|k2|k3|k4|k5|k6
  ·exact absurd k0 e2
  ·have hk6:x.1.k≠6:=by omega
   have hleaf:R=match Ps.ref s x.1 with
   |some p=>(.mk 8 x.1.n p.1 [] [] [],p.2,0)
   |none=>(.mk 2 x.1.n 0 [] [] [],x.1.t,0):=by rw[hleafR hk6,Ps.leaf,if_pos k1];cases Ps.ref s x.1<;>rfl
   simp only[decide_eq_true k1,i_t,tk_v ho 1 rfl];have ho:OwnS (rmE b s x.1.t M).blk w w3 ([obE b6 ob0 nilS nilS,tokE b4 x.1]++([rdE b s x.1.t,.mem M]++[])):=ho;have ho:=ho.front.pair;refine c_rm ho 0 rfl (Ro b s x.1 x.1.t M w3 (by omega) (ho.at_ 0 rfl)) ?_ fun _ _ h=>absurd trivial h;rintro _ N w4 _ hle rfl ho;simp only[ex];have ho:=ho.split;have ho:OwnS (rmE b s x.1.t M).blk w w4 ([rdE b s (pend s x.1 x.1.t),.mem N]++([obE b6 ob0 nilS nilS,tokE b4 x.1]++[])):=ho;have ho:=ho.front;refine bU ho fun b7 w5 ho=>?_;refine bA (vk':=nilS) (vc':=nilS) 0 rfl rfl ho rfl fun w6 ho=>?_;have ho:OwnS (rmE b s x.1.t M).blk w w6 ([obE b7 (refO s x.1) nilS nilS,obE b6 ob0 nilS nilS,tokE b4 x.1]++([rdE b s (pend s x.1 x.1.t),.mem N]++[])):=ho;unfold refO pend at ho;cases hp:Ps.ref s x.1 with
  |some p=>
    rw[hp] at hleaf ho;simp only at ho;simp only[Option.isSome_some,i_t,ob_v ho 0 rfl];refine bA 1 rfl rfl ho rfl fun w7 ho=>?_;have ho:OwnS (rmE b s x.1.t M).blk w w7 ([obE b7 (ob1 8 x.1.n p.1 []) nilS nilS,obE b6 (ob1 8 x.1.n p.1 []) nilS nilS,tokE b4 x.1]++([rdE b s p.2,.mem N]++[])):=ho;refine iW (bC (ho.agg 1 rfl eU)) ?_;subst hleaf;exact hret rfl _ N w7 _ ho.front hle HY
  |none=>
    rw[hp] at hleaf ho;simp only at ho;simp only[Option.isSome_none,i_f,tK,tk_n ho 2 rfl];refine aS ho (R:=fun v=>v=obV (ob1 2 x.1.n 0 []) nilS nilS) (Rc x.1.n w6) ?_;rintro _ w7 rfl ho;refine bA 1 rfl rfl ho rfl fun w8 ho=>?_;have ho:OwnS (rmE b s x.1.t M).blk w w8 ([obE b7 (ob1 0 0 0 []) nilS nilS,obE b6 (ob1 2 x.1.n 0 []) nilS nilS,tokE b4 x.1]++([rdE b s x.1.t,.mem N]++[])):=ho;refine iW (bC (ho.agg 1 rfl eU)) ?_;subst hleaf;exact hret rfl _ N w8 _ ho.front hle HY
  ·have hk6:x.1.k≠6:=by omega
   simp only[k2,show ¬((2:Int)=1) by decide,decide_true,decide_false,rs,tK,tk_n ho 1 rfl];exact tail (L:=[_,_]) 0 ho rfl (Pm x.1.n _) (by rw[hleafR hk6,Ps.leaf,if_neg (by omega),if_pos k2])
  ·have hk6:x.1.k≠6:=by omega
   simp only[k3,show ¬((3:Int)=1) by decide,show ¬((3:Int)=2) by decide,decide_true,decide_false,rs,bK,tk_s ho 1 rfl];exact tail (L:=[_,_]) 0 ho rfl (Re x.1.s _) (by rw[hleafR hk6,Ps.leaf,if_neg (by omega),if_neg (by omega),if_pos k3])
  ·have hk6:x.1.k≠6:=by omega
   simp only[k4,show ¬((4:Int)=1) by decide,show ¬((4:Int)=2) by decide,show ¬((4:Int)=3) by decide,decide_true,decide_false,rs,bK,tk_s ho 1 rfl];exact tail (L:=[_,_]) 0 ho rfl (Qt x.1.s _) (by rw[hleafR hk6,Ps.leaf,if_neg (by omega),if_neg (by omega),if_neg (by omega),if_pos k4])
  ·have hk6:x.1.k≠6:=by omega
   simp only[k5,show ¬((5:Int)=1) by decide,show ¬((5:Int)=2) by decide,show ¬((5:Int)=3) by decide,show ¬((5:Int)=4) by decide,decide_true,decide_false,rs,bK,tk_s ho 1 rfl];by_cases hn:x.1.s=[110,117,108,108]
   ·simp only[decide_eq_true hn,i_t];exact tail (L:=[_,_]) 0 ho rfl (PZ _) (by rw[hleafR hk6,Ps.leaf,if_neg (by omega),if_neg (by omega),if_neg (by omega),if_neg (by omega),if_pos (show x.1.s=Ps.nul from hn)];rfl)
   ·simp only[decide_eq_false hn,i_f];refine tail (L:=[_,_]) 0 ho rfl (PC _ _) ?_;rw[hleafR hk6,Ps.leaf,if_neg (by omega),if_neg (by omega),if_neg (by omega),if_neg (by omega),if_neg (show ¬x.1.s=Ps.nul from hn)];simp only[decide_eq_true_eq];rfl
  ·have hs2:x.1.s=[91]∨x.1.s=[60,60]:=by
    unfold Ps.bB at e3;rw[if_pos k6] at e3;simpa using e3
   rw[if_neg (show ¬x.1.k≠6 by rw[k6];simp)] at hob;simp only[k6,show ¬((6:Int)=1) by decide,show ¬((6:Int)=2) by decide,show ¬((6:Int)=3) by decide,show ¬((6:Int)=4) by decide,show ¬((6:Int)=5) by decide,decide_true,decide_false,rs,bK,tk_s ho 1 rfl];rw[aC (by omega) (by omega),show (24:Int) - ((n+1:Nat):Int)+1=24 - (n:Int) by omega];have ho:OwnS (rmE b s x.1.t M).blk w w3 ([obE b6 ob0 nilS nilS,tokE b4 x.1]++([rdE b s x.1.t,.mem M]++[])):=ho;have ho:=ho.front.pair;have fin:∀{W:World} {N:Mem} {u:Value},R.2.2=0→M.le N→OV N.A N.w u R.1→OwnS (rmE b s x.1.t M).blk w W [rmE b s R.2.1 N,obE b6 ob0 nilS nilS,tokE b4 x.1] →
     DoX prog (aD 42 (.pointer (some ⟨b6,0,none⟩)) u) W (pk K) fun _ w=>RetX prog [.cell (.pointer (some ⟨b6,0,none⟩)) 42] w K:=by
    intro W N u h0 hle hu ho;obtain⟨xk,xc,xcs,rfl,hx⟩:=hu.open;refine bA 1 hx.keys.one hx.kids.one ho rfl fun W2 ho=>?_;refine iW (bC (ho.agg 1 rfl eU)) ?_;exact hret h0 _ N W2 _ ho.split hle hx.ov
   have fall:∀{W:World} {e2:Ent},¬R.2.2=0→OwnS (rmE b s x.1.t M).blk w W [.two e2 (.mem M),obE b6 ob0 nilS nilS,tokE b4 x.1]→pk K [pZ R.2.2] W:=
    fun h0 ho=>hpan h0 _ M _ _ ho.split M.le_refl
   rcases hs2 with h2|h2
   ·simp only[decide_eq_true h2,i_t];rw[if_pos h2] at hob;have h:=harr b x.1.t M w3 (by omega) (by omega) (ho.at_ 0 rfl);rw[←hob] at h;exact c_rm ho 0 rfl h (fun v N w4 h0 hle hv ho=>fin h0 hle hv ho) fun e2 w4 h0 ho=>fall h0 ho
   ·have h91:¬x.1.s=[91]:=by rw[h2];decide
    simp only[decide_eq_false h91,i_f];rw[if_neg h91] at hob;have h:=hdict b x.1.t M w3 (by omega) (by omega) (ho.at_ 0 rfl);rw[←hob] at h;exact c_rm ho 0 rfl h (fun v N w4 h0 hle hv ho=>fin h0 hle hv ho) fun e2 w4 h0 ho=>fall h0 ho
end
section
open Eng Go.RowKit
def rdAt (b:Nat)(w:World):Nat:=match w.cell? ⟨b,1,none⟩ with|some (.int _ q)=>q.toNat|_=>0
theorem I6 {b:Nat}{s:List UInt8}{a:Int}{w:World}(h:(rdE b s a).is w):rdAt b w=a.toNat:=by
 unfold rdAt;rw[aU (T:=144) (cs:=rdC s a) (i:=1) h rfl]
theorem meas {n:Nat}{a b:Int}(h0:0≤a)(h:a < b)(hb:b≤n):n - b.toNat < n - a.toNat:=by omega
theorem O5 {s:List UInt8}{ok:Bool}{n m:Nat}{a:Int}{acc:List Ob}(h:¬Has s a):Ps.arr s ok (Ps.obj s n) (m+1) a acc=Ps.bad (CQ s a):=by
 rw[Ps.arr];have h1:¬((Lx.next s a).2=0∧(Lx.next s a).1.k=6∧(Lx.next s a).1.s=[93]):=fun h2=>h ⟨h2.1,by rw[h2.2.1];decide⟩;rw[if_neg h1];by_cases e1:(Lx.next s a).2=0
 ·have e2:(Lx.next s a).1.k=0:=Classical.not_not.1 fun h2=>h ⟨e1,h2⟩;have hb:¬((Lx.next s a).2=0∧acc.length=8191∧Ps.bB (Lx.next s a).1=true∧ok=true):=fun h2=>by
   have:=h2.2.2.1;unfold Ps.bB at this;rw[if_neg (by rw[e2];decide),e2] at this;simp at this
  rw[if_neg hb,if_neg (by rw[e1];simp),FZ h,if_pos (show (Ps.bad (CQ s a)).2.2≠0 from rN)];rfl
 ·rw[if_neg (fun h2=>e1 h2.1),if_pos e1];unfold CQ;rw[if_pos e1]
theorem QD (s:List UInt8)(hs:s.length≤1000000000)(n:Nat)(hn:n≤23)(hsub:PObj s n):PArr s n:=by
 intro b a M w h0 h1 hr;generalize hR:Ps.arr s (decide (n≠0)) (Ps.obj s n) (s.length+1) a []=R;refine qD (fun K ho hret hpan=>uP ?_) hr;unfold fQ;have ho:=ho.pair.nilU 42 6;refine bU ho fun b4 w1 ho=>?_;have hb6:∀{PK:PKT} {K:VWP},DoX prog (aG 42 #[(0,(.int .i64 6))]) w1 PK K=K (obV (.mk 6 0 0 [] [] []) nilS nilS) w1:=aT (by kernel_rfl);rw[hb6];refine bU ho fun b5 w2 ho=>?_;refine bA (o':=.mk 6 0 0 [] [] []) (vk':=nilS) (vc':=nilS) 0 rfl rfl ho rfl fun w3 ho=>?_;generalize hS0:(rmE b s a M).blk=S0 at *;have ho:OwnS S0 w w3 [obE b5 (.mk 6 0 0 [] [] []) nilS nilS,obE b4 ob0 nilS nilS,kidE nilS 0 [],rmE b s a M]:=ho;have fall:∀{W:World} {L:List Ent} {e2:Ent} {N:Mem} (e:Int),OwnS S0 w W (L++([.two e2 (.mem N)]++[]))→M.le N→R=Ps.bad e→e≠0→pk K [pZ e] W:=by
  intro W L e2 N e ho hle he h0;subst he;exact hpan h0 e2 N W _ (ho.front).split hle
 refine loop (fun vs w'=>∃(a':Int) (m:Nat) (acc:List Ob) (cs:List Value) (vc:Value) (N:Mem),vs=[]∧0≤a'∧a'≤s.length∧(acc.length:Int)≤a'∧acc.length≤8191∧acc.length+m=s.length+1 ∧
   Ps.arr s (decide (n≠0)) (Ps.obj s n) m a' acc=R∧M.le N∧OVs N.A N.w cs acc ∧
   OwnS S0 w w' [obE b5 (.mk 6 0 0 [] [] acc) nilS vc,obE b4 ob0 nilS nilS,kidE vc acc.length cs,rmE b s a' N]) (fun _ w=>s.length - rdAt b w)
  ⟨a,s.length+1,[],[],nilS,M,rfl,h0,h1,by simpa using h0,by simp,by simp,hR,M.le_refl,OVs.nil,ho⟩ ?_
 clear ho hR;rintro vs w4 ⟨a',m,acc,cs,vc,N,rfl,ha0,ha1,hla,hmx,hml,harr,hle,hall,ho⟩ _;simp only[kH];obtain⟨m,rfl⟩:∃k,m=k+1:=⟨m - 1,by omega⟩;have hat:rdAt b w4=a'.toNat:=I6 (ho.at_ 3 rfl).1;refine c_rm ho 3 rfl (BR b s a' N w4 (by omega) (ho.at_ 3 rfl)) ?_ fun e2 w5 hn ho=>?_
 rotate_left
 ·rw[O5 hn] at harr;exact fall (L:=[_,_,_]) _ ho hle harr.symm rN
 rintro _ N1 w5 hhas hle1 rfl ho;have hbd:=@Lx.bV s a' hhas.1 hhas.2;have hge:=Lx.cO s a'.toNat;have hopen:=@Ps.zO s n a';have hsubl:=fun (M:Mem) (w:World)=>hsub b a' M w hhas;have hbd2:=@Ps.JS s n a';obtain⟨e1,e2⟩:=hhas;rw[Ps.arr] at harr;generalize Ps.obj s n a'=e at *;generalize Lx.next s a'=x at *
 have hvc:=bJ (ho.at_ 2 rfl);refine jY ho fun b6 w6 ho=>?_;refine nI 0 ho rfl fun w7 ho=>?_;have ho:OwnS S0 w w7 [tokE b6 x.1,obE b5 (.mk 6 0 0 [] [] acc) nilS vc,obE b4 ob0 nilS nilS,kidE vc acc.length cs,rmE b s x.1.t N1]:=ho;rw[tk_v ho 0 rfl];refine aS ho (R:=fun v=>v=.bool (decide (x.1.k=6)&&decide (x.1.s=[93]))) (Fi x.1 6 [93] w7) ?_;rintro _ w8 rfl ho;cases e3:(decide (x.1.k=6)&&decide (x.1.s=[93])) with
|true=>
  simp only[Bool.and_eq_true,decide_eq_true_eq] at e3;rw[if_pos ⟨e1,e3.1,e3.2⟩] at harr;simp only[i_t,ob_v ho 1 rfl];refine bA 2 rfl hvc ho rfl fun w9 ho=>?_;refine iW (bC (ho.agg 2 rfl eU)) ?_;have ho:OwnS S0 w w9 ([tokE b6 x.1,obE b5 (.mk 6 0 0 [] [] acc) nilS vc,obE b4 (.mk 6 0 0 [] [] acc) nilS vc,kidE vc acc.length cs]++([rmE b s x.1.t N1]++[])):=ho;have ho:=ho.front.split;have ho:OwnS S0 w w9 ([rdE b s x.1.t,.mem N1,tokE b6 x.1,obE b5 (.mk 6 0 0 [] [] acc) nilS vc,obE b4 (.mk 6 0 0 [] [] acc) nilS vc]++([kidE vc acc.length cs]++[])):=ho;obtain⟨N2,hle2,hrow,ho⟩:=OwnS.eT (L:=[rdE b s x.1.t,.mem N1,tokE b6 x.1,obE b5 (.mk 6 0 0 [] [] acc) nilS vc,obE b4 (.mk 6 0 0 [] [] acc) nilS vc]) ho.front 1 rfl;subst harr;exact hret rfl _ N2 w9 _ ho ((hle.trans hle1).trans hle2) (ObAt.ov (o:=.mk 6 0 0 [] [] acc) ⟨SlA.nil _ _ _ _,hrow,(hall.le hle1).le hle2⟩)
|false=>
 have e3':¬(x.2=0∧x.1.k=6∧x.1.s=[93]):=fun h=>by
  rw[decide_eq_true h.2.1,decide_eq_true h.2.2] at e3;exact absurd e3 (by decide)
 rw[if_neg e3'] at harr;simp only[i_f];refine join fun J hJ=>?_
 -- the element
 have one:∀{W:World},OwnS S0 w W [tokE b6 x.1,obE b5 (.mk 6 0 0 [] [] acc) nilS vc,obE b4 ob0 nilS nilS,kidE vc acc.length cs,rmE b s x.1.t N1]→¬(acc.length=8191∧Ps.bB x.1=true∧n≠0)→J [] W:=by
  intro W ho h6;have h6':¬(x.2=0∧acc.length=8191∧Ps.bB x.1=true∧decide (n≠0)=true):=fun h=>h6 ⟨h.2.1,h.2.2.1,of_decide_eq_true h.2.2.2⟩;rw[if_neg h6',if_neg (by rw[e1];simp)] at harr;refine hJ _ _ fun _=>?_;unfold kG;have ho:=ho.drew;refine⟨fun W=>(obE b5 (.mk 6 0 0 [] [] acc) nilS vc).is W∧(tokE b6 x.1).is W,⟨ho.at_ 1 rfl,ho.at_ 0 rfl⟩,?_⟩;refine aR _ (fun _=>aY Lt) ?_;refine iB vc (fun W h=>aM BO (aU (T:=42) (cs:=obC (.mk 6 0 0 [] [] acc) nilS vc) (i:=5) h.1 rfl)) ?_;refine iB (tokV x.1) (fun W h=>bL (AtV.agg DJ (cs:=tokC x.1) rfl fun j u hj=>by rw[Nat.zero_add];exact aU (T:=53) h.2 hj)) ?_;refine c_rm ho 4 rfl (hsubl N1 _ (ho.at_ 4 rfl)) ?_ fun e2 w9 hz ho=>?_
  rotate_left
  ·rw[if_pos hz] at harr;exact fun _ _ _ _ _ _=>fall (L:=[_,_,_,_]) _ ho (hle.trans hle1) harr.symm hz
  rintro u N2 w9 hz hle2 hu ho;have ho:OwnS S0 w w9 [tokE b6 x.1,obE b5 (.mk 6 0 0 [] [] acc) nilS vc,obE b4 ob0 nilS nilS,kidE vc acc.length cs,rmE b s e.2.1 N2]:=ho;obtain⟨xk,xc,xcs,rfl,hx⟩:=hu.open;refine⟨⟨ho.at_ 1 rfl,ho.at_ 0 rfl⟩,?_⟩;refine AF e.1 hx.keys.one hx.kids.one ho fun nb w10 ho=>⟨⟨ho.at_ 2 rfl,ho.at_ 1 rfl⟩,?_⟩;refine JG 4 ho rfl (ho.sl 0 rfl 6 1 1 rfl) (oV _ hx.keys.one hx.kids.one) (by omega) fun vc' w11 ho=>⟨⟨ho.at_ 2 rfl,ho.at_ 1 rfl⟩,?_⟩;have ho:=ho.tail.tail;have ho:OwnS S0 w w11 [obE b5 (.mk 6 0 0 [] [] acc) nilS vc,obE b4 ob0 nilS nilS,kidE vc' (acc.length+1) (cs++obC e.1 xk xc),rmE b s e.2.1 N2]:=ho;have hvc':=bJ (ho.at_ 2 rfl);refine aR _ (fun _=>aY Lt) ?_;refine bI 0 ho rfl (by kernel_rfl) hvc' (show 0+5 < 6 by omega) fun w12 ho=>?_;have hbd3:=hbd2 hz;rw[if_neg (by rw[hz];simp)] at harr;obtain⟨o1,o2,o3,m',hm',_⟩:=hopen hz;have hmx':acc.length≠8191:=fun h=>h6 ⟨h,o3,by omega⟩;have el:(acc++[e.1]).length=acc.length+1:=by simp
  refine bG ⟨e.2.1,m,acc++[e.1],cs++obC e.1 xk xc,vc',N2,rfl,by omega,hbd3.2,by simp;omega,by simp;omega,by simp;omega,harr,(hle.trans hle1).trans hle2,oJ ((hall.le hle1).le hle2) (DQ hx.ov),?_⟩ ?_
  ·rw[el];exact ho
  ·have hat2:rdAt b w12=e.2.1.toNat:=I6 (ho.at_ 3 rfl).1;show s.length - rdAt b w12 < s.length - rdAt b w4;rw[hat,hat2];exact meas ha0 hbd3.1 hbd3.2
 rw[tk_v ho 0 rfl];refine aS ho (R:=fun v=>v=.bool (Ps.bB x.1)) (Cn x.1 w8 e2) ?_;rintro _ w9 rfl ho;cases e4:Ps.bB x.1 with
|false=>
  simp only[rs,g_un];exact one ho fun h=>by rw[e4] at h;exact absurd h.2.1 (by decide)
|true=>
  simp only[rs];by_cases e5:n=0
  ·have:¬(24:Int) - n < 24:=by omega
   simp only[decide_eq_false this,rs,g_un];exact one ho fun h=>h.2.2 e5
  ·have:(24:Int) - n < 24:=by omega
   simp only[decide_eq_true this,rs,mH,cX ho 1 rfl,bF Tryz.underlying40 (ho.slU 3 rfl)];by_cases e6:(8191:Int)≤(acc.length:Int)
   ·simp only[decide_eq_true e6,i_t];rw[if_pos ⟨e1,by omega,e4,decide_eq_true e5⟩] at harr;exact throw (fall (L:=[_,_,_,_]) 6 ho (hle.trans hle1) harr.symm (by decide))
   ·simp only[decide_eq_false e6,i_f];exact one ho fun h=>e6 (by omega)
end
section
open Eng Go.RowKit
def BQ (ks:List (List UInt8)):List (List UInt8):=ks.mergeSort fun x y=>decide (x≤y)
theorem Pz (ks:List (List UInt8)):(BQ ks).length=ks.length:=List.length_mergeSort _
theorem NM (ks:List (List UInt8)):(BQ ks).Perm ks:=List.mergeSort_perm _ _
theorem Hk {ks l:List (List UInt8)}(hp:ks.Perm l)(hr:Vl.Rise l):BQ ks=l:=by
 have tr:∀a b c:List UInt8,decide (a≤b)=true→decide (b≤c)=true→decide (a≤c)=true:=fun a b c h1 h2=>by simp only[decide_eq_true_eq] at *;exact List.le_trans h1 h2
 have tt:∀a b:List UInt8,(decide (a≤b)||decide (b≤a))=true:=fun a b=>by simp only[Bool.or_eq_true,decide_eq_true_eq];exact List.le_total a b
 refine List.Perm.eq_of_pairwise (le:=fun a b=>decide (a≤b)=true) (fun a b _ _ h1 h2=>?_) (List.pairwise_mergeSort tr tt ks) (hr.imp fun {a b} h=>?_) ((NM ks).trans hp)
 ·simp only[decide_eq_true_eq] at h1 h2;exact List.le_antisymm h1 h2
 ·have:=(Vl.FM a b).1 h;simp only[decide_eq_true_eq];exact List.le_of_lt this
theorem KB (v:Value)(ks:List (List UInt8))(w:World)(h:(keyE v ks).is w)(hb:ks.length≤1000000000) :
  Ret prog 148 #[v] w (fun r w'=>r=.tuple #[]∧Turn (keyE v ks) (keyE v (BQ ks)) w w'):=by
 obtain⟨h1,h2⟩:=(show w.ownsRow 0 9 1 v ks.length (bR ks) from h);rcases h2 with ⟨rfl,h0⟩|⟨g,cap,cur,rfl,hb0,hg,hnc,hcm,hcs,htake⟩
 ·have hk:ks=[]:=List.eq_nil_of_length_eq_zero h0;subst hk;refine Calls.mono (Tryz.slices_Sort_string_none none 0 w) ?_;rintro e w' ⟨rfl,rfl⟩;exact⟨_,rfl,rfl,by simpa[BQ] using Turn.refl h⟩
 ·rw[Nat.mul_one] at hcs htake;have hsz:ks.length≤cur.size:=by rw[hcs];exact hnc
  have hget:∀j,(hj:j < ks.length)→cur[j]?=some (Value.string ⟨ks[j].toArray⟩):=by
   intro j hj;have h3:(bR ks)[j]?=some (.string ⟨ks[j].toArray⟩):=eB hj;rw[←htake,List.getElem?_take,if_pos hj,Array.getElem?_toList] at h3;exact h3
  have hH:Go.Sort.Holds encStr w g 0 ks.toArray:=by
   intro j hj;have hj':j < ks.length:=by simpa using hj
   constructor
   ·unfold World.cell?;simp only[hg,Nat.zero_add];rw[hget j hj',getElem!_pos ks.toArray j hj];rfl
   ·unfold World.frozen?;simp only[hg,Nat.zero_add];simp
  refine Calls.mono (Tryz.slices_Sort_string g 0 cap ks w hH (jE hg) (by omega)) ?_;rintro e w' ⟨rfl,n,os,rfl⟩;refine⟨_,rfl,rfl,?_⟩;have hlen:=Pz ks;have hheap:∀k,k < w.heap.size→(Go.Sort.grow (Go.Sort.putRow encStr (Go.Sort.ahead w n) g 0 (BQ ks).toArray) os).heap[k]?=(if g=k then (w.heap[k]?).map (Go.Sort.onCells (Go.Sort.putCells encStr 0 (BQ ks).toArray)) else w.heap[k]?):=by
   intro k hk;show ((w.heap.modify g _)++os)[k]?=_;rw[Array.getElem?_append_left (by simpa using hk),Array.getElem?_modify]
  refine⟨⟨rfl,rfl,rfl,?_,fun k hk hn=>?_⟩,?_,fun k hk=>.inl hk⟩
  ·show w.heap.size≤((w.heap.modify g _)++os).size;simp
  ·have hne:g≠k:=fun e=>hn (by subst e;rfl);exact (hheap k hk).trans (if_neg hne)
  ·show (World.ownsRow _ 0 9 1 _ (BQ ks).length (bR (BQ ks)));refine⟨by simp[bR],.inr ⟨g,cap,Go.Sort.putCells encStr 0 (BQ ks).toArray cur,by rw[hlen],hb0,?_,by rw[hlen];exact hnc,hcm,?_,?_⟩⟩
   ·have:=hheap g (jE hg);rw[if_pos rfl,hg] at this;exact this
   ·simp[Go.Sort.putCells,hcs]
   ·rw[Nat.mul_one];apply List.ext_getElem?;intro j;rw[List.getElem?_take];by_cases hj:j < (BQ ks).length
    ·have hjc:j < cur.size:=by omega
     rw[if_pos hj,eB hj,Array.getElem?_toList];unfold Go.Sort.putCells;rw[Array.getElem?_mapIdx,Array.getElem?_eq_getElem hjc,Option.map_some,if_pos ⟨by omega,by simpa using hj⟩,Nat.sub_zero,getElem!_pos (BQ ks).toArray j (by simpa using hj)];rfl
    ·rw[if_neg hj,List.getElem?_eq_none (by rw[mS];omega)]
end
section
open Go
namespace Ps
abbrev Kv:=List UInt8×Ob
def live (l:List Kv):List (List UInt8):=(l.filter fun p=>decide (p.2.k≠0)).map (·.1)
structure Made (o:Ob) (l:List Kv):Prop where
 k:o.k=7
 n:o.n=0
 g:o.g=0
 s:o.s=[]
 rise:Vl.Rise o.keys
 len:o.keys.length=o.kids.length
 perm:(live l).Perm o.keys
 mem:∀q∈o.keys.zip o.kids,q∈l
theorem Un:Made aZ []:=⟨rfl,rfl,rfl,rfl,List.Pairwise.nil,rfl,List.Perm.nil,fun q hq=>by simp[aZ,Ob.keys] at hq⟩
theorem JF (l:List Kv)(p:Kv):live (l++[p])=live l++(if p.2.k≠0 then [p.1] else []):=by
 unfold live;rw[List.filter_append,List.map_append]
 congr 1
 by_cases h:p.2.k=0<;>simp[h]
theorem RN {l:List Kv}:∀k∈live l,k∈l.map (·.1):=by
 intro k hk;obtain⟨p,hp,rfl⟩:=List.mem_map.1 hk;exact List.mem_map.2 ⟨p,(List.mem_filter.1 hp).1,rfl⟩
theorem Kh {o v:Ob}{l:List Kv}{key:List UInt8}(h:Made o l)(hn:key ∉ l.map (·.1)):Made (join o key v) (l++[(key,v)]):=by
 unfold join;by_cases hv:v.k=0
 ·rw[if_neg (by rw[hv];simp)];refine⟨h.k,h.n,h.g,h.s,h.rise,h.len,?_,fun q hq=>List.mem_append_left _ (h.mem q hq)⟩;rw[JF,if_neg (by rw[hv];simp),List.append_nil];exact h.perm
 ·rw[if_pos hv];have hko:key ∉ o.keys:=fun hk=>hn (RN _ (h.perm.symm.subset hk));have hhit:Vl.hit o.keys key=false:=by
   unfold Vl.hit;rw[decide_eq_false_iff_not];exact fun hk=>hko (List.mem_of_getElem? hk)
  have hput:Vl.put o key v=.mk o.k o.n o.g o.s (o.keys.take (Vl.place o.keys key)++key::o.keys.drop (Vl.place o.keys key)) (o.kids.take (Vl.place o.keys key)++v::o.kids.drop (Vl.place o.keys key)):=by
   unfold Vl.put;rw[hhit];rfl
  obtain⟨r1,r2⟩:=Vl.HZ (v:=v) h.rise h.len (key:=key);refine⟨h.k,h.n,h.g,h.s,r1,r2,?_,?_⟩
  ·rw[JF,if_pos hv,hput];refine (List.perm_append_singleton key (live l)).trans ?_;refine (List.Perm.cons key h.perm).trans ?_;have:=(List.perm_middle (a:=key) (l₁:=o.keys.take (Vl.place o.keys key)) (l₂:=o.keys.drop (Vl.place o.keys key))).symm
   rwa [List.take_append_drop] at this
  ·intro q hq;rw[hput] at hq;have hz:(o.keys.take (Vl.place o.keys key)++key::o.keys.drop (Vl.place o.keys key)).zip (o.kids.take (Vl.place o.keys key)++v::o.kids.drop (Vl.place o.keys key)) =
     (o.keys.take (Vl.place o.keys key)).zip (o.kids.take (Vl.place o.keys key))++(key,v)::(o.keys.drop (Vl.place o.keys key)).zip (o.kids.drop (Vl.place o.keys key)):=by
    rw[List.zip_append (by simp[h.len])];rfl
   have hq:q∈(o.keys.take (Vl.place o.keys key)++key::o.keys.drop (Vl.place o.keys key)).zip (o.kids.take (Vl.place o.keys key)++v::o.kids.drop (Vl.place o.keys key)):=hq;rw[hz] at hq;have hold:o.keys.zip o.kids=(o.keys.take (Vl.place o.keys key)).zip (o.kids.take (Vl.place o.keys key))++(o.keys.drop (Vl.place o.keys key)).zip (o.kids.drop (Vl.place o.keys key)):=by
    rw[←List.zip_append (by simp[h.len]),List.take_append_drop,List.take_append_drop]
   rcases List.mem_append.1 hq with hq|hq
   ·exact List.mem_append_left _ (h.mem q (by rw[hold];exact List.mem_append_left _ hq))
   ·rcases List.mem_cons.1 hq with hq|hq
    ·subst hq;simp
    ·exact List.mem_append_left _ (h.mem q (by rw[hold];exact List.mem_append_right _ hq))
theorem P6 {o:Ob}{l:List Kv}(h:Made o l){i:Nat}(hi:i < o.keys.length):(o.keys[i],o.kids[i]'(by have:=h.len;omega))∈l:=by
 refine h.mem _ ?_;have:(o.keys.zip o.kids)[i]'(by simp[h.len] at *;omega)=(o.keys[i],o.kids[i]'(by have:=h.len;omega)):=List.getElem_zip;rw[←this];exact List.getElem_mem _
end Ps
end
section
namespace Eng
open Go.RowKit
structure MapF (al:List (List UInt8×Value)) (es:Array MapEntry) (clock:Nat):Prop where
 al:es.toList.map (fun e=>(e.key,e.val))=al.map fun p=>(strK p.1,p.2)
 nodup:(es.toList.map (·.born)).Nodup
 old:∀e∈es.toList,e.born < clock
def Ent.mapB (b:Nat)(al:List (List UInt8×Value)):Ent:=⟨fun k=>k=b,fun w=>∃es clock,w.heap[b]?=some (.map es clock)∧MapF al es clock,fun {w w'} h k=>by
  obtain⟨es,clock,h1,h2⟩:=h;exact⟨es,clock,(k b rfl).trans h1,h2⟩,fun h k hk=>by
  obtain⟨es,clock,h1,h2⟩:=h;cases hk;exact jE h1⟩
theorem OZ {w:World}{b:Nat}{al:List (List UInt8×Value)}(h:(Ent.mapB b al).is w):Vm w b al:=by
 obtain⟨es,clock,h1,h2⟩:=h;exact⟨es,clock,h1,h2.al⟩
def LF (es:Array MapEntry)(seen:Array Nat)(done:List (List UInt8×Value)):Prop:=
 ∃ds:List MapEntry,seen.toList=ds.map (·.born)∧(∀e∈ds,e∈es.toList)∧(ds.map (·.born)).Nodup∧ds.map (fun e=>(e.key,e.val))=done.map fun p=>(strK p.1,p.2)
theorem born_inj:∀{l:List MapEntry},(l.map (·.born)).Nodup→∀{x y:MapEntry},x∈l→y∈l→x.born=y.born→x=y
|[],_,_,_,hx,_,_=>by cases hx
|a::l,hn,x,y,hx,hy,h=>by
  rw[List.map_cons,List.nodup_cons] at hn;rcases List.mem_cons.1 hx with ex|hx
  ·rcases List.mem_cons.1 hy with ey|hy
   ·rw[ex,ey]
   ·exact absurd (List.mem_map.2 ⟨y,hy,by rw[←h,ex]⟩) hn.1
  ·rcases List.mem_cons.1 hy with ey|hy
   ·exact absurd (List.mem_map.2 ⟨x,hx,by rw[h,ey]⟩) hn.1
   ·exact born_inj hn.2 hx hy h
theorem nU:∀{l:List MapEntry},(l.map (·.born)).Nodup→l.Nodup
|[],_=>List.nodup_nil
|a::l,h=>by
  rw[List.map_cons,List.nodup_cons] at h;exact List.nodup_cons.2 ⟨fun hm=>h.1 (List.mem_map.2 ⟨a,hm,rfl⟩),nU h.2⟩
theorem MN {α:Type}:∀(a b:List α),a.Nodup→(∀x∈a,x∈b)→a.length≤b.length
|[],_,_,_=>by simp
|x::a,b,hn,hs=>by
  obtain⟨u,v,rfl⟩:=List.append_of_mem (hs x List.mem_cons_self);obtain⟨h1,h2⟩:=List.nodup_cons.1 hn;have:=MN a (u++v) h2 fun y hy=>by
   have hy':=hs y (List.mem_cons_of_mem _ hy);rw[List.mem_append,List.mem_cons] at hy';rw[List.mem_append];rcases hy' with h|h|h
   ·exact .inl h
   ·subst h;exact absurd hy h1
   ·exact .inr h
  simp only[List.length_append,List.length_cons] at this ⊢;omega
theorem Tt {a b:List (List UInt8×Value)}(h:(a.map fun p=>(strK p.1,p.2)).Perm (b.map fun p=>(strK p.1,p.2))):a.Perm b:=by
 -- a list that goes back
 let back:Value×Value→List UInt8×Value:=fun q=>(match q.1 with|.string s=>s.data.toList|_=>[],q.2)
 have hb:∀l:List (List UInt8×Value),(l.map fun p=>(strK p.1,p.2)).map back=l:=by
  intro l;rw[List.map_map]
  conv=>rhs;rw[←List.map_id l]
  refine List.map_congr_left fun p _=>?_;rfl
 have:=h.map back
 rwa [hb,hb] at this
section
variable {S:Nat→Prop}{P:Program}{w w0:World}{L:List Ent}{PK:PKT}{K:VWP}
theorem JM {T:TypeId}(ho:OwnS S w0 w L)(k:∀b w',OwnS S w0 w' (.mapB b []::L)→K (.map (some b)) w'):DoX P (mMap T none) w PK K:=by
 have hr:(Instr.makeMap T none).run P w=.ok (.map (some w.heap.size)) (w.alloc (.map #[] 0)):=rfl;exact tN (cK hr) (k _ _ (ho.add (World.grownBy_alloc w _ none) (.mapB w.heap.size []) ⟨#[],0,heap_alloc_new w _,rfl,List.nodup_nil,fun e he=>by simp at he⟩ (fun k hk=>by cases hk;exact Nat.le_refl _)))
theorem JX (i:Nat){T k e:TypeId}{b:Nat}{al:List (List UInt8×Value)}(ht:P.underlying T=some (.map k e))(hk:P.underlying k=some .string)(ho:OwnS S w0 w L)(hi:L[i]?=some (.mapB b al))(x:List UInt8)(v:Value)(hn:kC al x=none)
  (kk:∀w',OwnS S w0 w' (L.set i (.mapB b (al++[(x,v)])))→K undef w'):DoX P (PQ T (.map (some b)) (strK x) v) w PK K:=by
 obtain⟨es,clock,h1,h2⟩:=(show ∃es clock,w.heap[b]?=some (.map es clock)∧MapF al es clock from ho.at_ i hi);obtain⟨r,r1,r2⟩:=EN (P:=P) (w:=w) hk x h2.al;have hr0:r=none:=by
  cases r with
 |none=>rfl
 |some p=>rw[hn] at r2;cases r2
 subst hr0;have hr:(Instr.mapUpdate T (.map (some b)) (strK x) v).run P w=.ok () { w with heap:=w.heap.setIfInBounds b (.map (es.push { key:=strK x,val:=v,born:=clock }) (clock+1)) }:=by
  simp[Instr.mapUpdate,run_underlying ht,getObj,setObj,Sem.run,h1,zC hk x,r1]
 refine IH (MB hr) (kk _ ?_);refine ho.put i hi (w':={ w with heap:=w.heap.setIfInBounds b _ }) ⟨rfl,rfl,rfl,by simp,fun k _ hk=>?_⟩ (.mapB b (al++[(x,v)])) ?_ (fun k hk=>.inl hk)
 ·show (w.heap.setIfInBounds b _)[k]?=_;exact Array.getElem?_setIfInBounds_ne (fun e=>hk (by simp[Ent.mapB,e]))
 ·refine⟨es.push { key:=strK x,val:=v,born:=clock },clock+1,?_,?_,?_,?_⟩
  ·show (w.heap.setIfInBounds b _)[b]?=_;exact Array.getElem?_setIfInBounds_self_of_lt (jE h1)
  ·simp[h2.al]
  ·rw[Array.toList_push,List.map_append,List.nodup_append];refine⟨h2.nodup,by simp,fun a ha c hc=>?_⟩;obtain⟨e,he,rfl⟩:=List.mem_map.1 ha;have:=h2.old e he;simp at hc;omega
  ·intro e he;rw[Array.toList_push] at he;rcases List.mem_append.1 he with he|he
   ·have:=h2.old e he;omega
   ·rw[List.mem_singleton] at he;subst he;exact Nat.lt_succ_self _
theorem OwnS.U9 {b:Nat}{al:List (List UInt8×Value)}(ho:OwnS S w0 w L)(i:Nat)(hi:L[i]?=some (.mapB b al)):∃es clock,MapF al es clock∧OwnS S w0 w (L.set i (.obj b (.map es clock))):=by
 obtain⟨es,clock,h1,h2⟩:=(show ∃es clock,w.heap[b]?=some (.map es clock)∧MapF al es clock from ho.at_ i hi);exact⟨es,clock,h2,ho.turn i hi ⟨Grew.refl _ _,h1,fun _ hk=>.inl hk⟩⟩
theorem OwnS.Ut {b:Nat}{al:List (List UInt8×Value)}{es:Array MapEntry}{clock:Nat}(ho:OwnS S w0 w L)(i:Nat)(hi:L[i]?=some (.obj b (.map es clock)))(hf:MapF al es clock):OwnS S w0 w (L.set i (.mapB b al)):=
 ho.turn i hi ⟨Grew.refl _ _,⟨es,clock,ho.at_ i hi,hf⟩,fun _ hk=>.inl hk⟩
theorem Mn (i:Nat){T k e:TypeId}{m clock:Nat}{es:Array MapEntry}(ht:P.underlying T=some (.map k e))(ho:OwnS S w0 w L)(hi:L[i]?=some (.obj m (.map es clock)))
  (kk:∀b w',OwnS S w0 w' (.obj b (.mapIter (some m) clock #[] clock)::L)→K (.pointer (some ⟨b,0,none⟩)) w'):DoX P (uR T (.map (some m))) w PK K:=by
 have h1:w.heap[m]?=some (.map es clock):=ho.at_ i hi;have hr:=run_range_map (P:=P) w T k e m es clock ht h1;exact tN (cK hr) (kk _ _ (ho.Em _))
theorem Mr (es:Array MapEntry):LF es #[] []:=⟨[],rfl,(fun e he=>by cases he),List.nodup_nil,rfl⟩
theorem Pu (i j:Nat){b m clock:Nat}{es:Array MapEntry}{seen:Array Nat}{al done:List (List UInt8×Value)}{ty:TypeId}(ho:OwnS S w0 w L)(hi:L[i]?=some (.obj b (.mapIter (some m) clock seen clock)))(hj:L[j]?=some (.obj m (.map es clock)))
  (hf:MapF al es clock) (hs:LF es seen done) (kend:done.Perm al→K (.tuple #[.bool false]) w)
  (knext:∀(p:List UInt8×Value) (e:MapEntry) (w':World),p∈al→p ∉ done∨True→e∈es.toList→e.key=strK p.1→e.val=p.2→LF es (seen.push e.born) (done++[p])→done.length < al.length →
   OwnS S w0 w' (L.set i (.obj b (.mapIter (some m) clock (seen.push e.born) clock)))→K (.tuple #[.bool true,strK p.1,p.2]) w') :
  DoX P (GS (.pointer (some ⟨b,0,none⟩)) false ty) w PK K:=by
 have h1:w.heap[b]?=some (.mapIter (some m) clock seen clock):=ho.at_ i hi;have h2:w.heap[m]?=some (.map es clock):=ho.at_ j hj;obtain⟨ds,d1,d2,d3,d4⟩:=hs;have hds:ds.length=done.length:=by simpa using congrArg List.length d4
 have hel:es.toList.length=al.length:=by simpa using congrArg List.length hf.al
 rcases Go.run_next_at (P:=P) w ty b m clock clock seen es clock h1 h2 hf.old (Nat.le_refl _) with ⟨hl,hr⟩|⟨e,he,w1,hw1,hr⟩
 ·refine tN (cK hr) (kend ?_)
  -- all have come
  have hall:∀x∈es.toList,x∈ds:=by
   intro x hx;have hc:seen.contains x.born=true:=by
    cases hcc:seen.contains x.born with
   |true=>rfl
   |false=>
     exfalso;have hm:x∈(leftOf es seen).toList:=by
      unfold leftOf;rw[Array.toList_filter,List.mem_filter];exact⟨hx,by simp only[hcc];rfl⟩
     have:0 < (leftOf es seen).size:=by
      rw[←Array.length_toList];exact List.length_pos_of_mem hm
     omega
   have hm:x.born∈seen.toList:=by simpa using hc
   rw[d1] at hm;obtain⟨y,hy,hyb⟩:=List.mem_map.1 hm;rw[←born_inj hf.nodup (d2 y hy) hx hyb];exact hy
  have hp:ds.Perm es.toList:=(List.perm_ext_iff_of_nodup (nU d3) (nU hf.nodup)).2 fun x=>⟨d2 x,hall x⟩;have:=hp.map fun e=>(e.key,e.val);rw[d4,hf.al] at this;exact Tt this
 ·-- one comes
  have hem:e∈es.toList∧seen.contains e.born=false:=by
   unfold leftOf at he;rw[Array.toList_filter,List.mem_filter] at he;exact⟨he.1,by simpa using he.2⟩
  have hk:(e.key,e.val)∈es.toList.map (fun e=>(e.key,e.val)):=List.mem_map.2 ⟨e,hem.1,rfl⟩;rw[hf.al] at hk;obtain⟨p,hp,hpe⟩:=List.mem_map.1 hk;simp only[Prod.mk.injEq] at hpe;have hnb:e.born ∉ ds.map (·.born):=by
   rw[←d1];intro hm;have:seen.contains e.born=true:=by simpa using hm
   rw[hem.2] at this;cases this
  have hs':LF es (seen.push e.born) (done++[p]):=by
   refine⟨ds++[e],by simp[d1],?_,?_,?_⟩
   ·intro x hx;rcases List.mem_append.1 hx with hx|hx
    ·exact d2 x hx
    ·rw[List.mem_singleton] at hx;subst hx;exact hem.1
   ·rw[List.map_append,List.nodup_append];refine⟨d3,by simp,fun a ha c hc=>?_⟩;simp at hc;subst hc;intro e2;exact hnb (by rw[←e2];exact ha)
   ·simp[d4,hpe.1,hpe.2]
  have hlt:done.length < al.length:=by
   rw[←hds,←hel];exact MN (e::ds) es.toList (List.nodup_cons.2 ⟨fun hm=>hnb (List.mem_map.2 ⟨e,hm,rfl⟩),nU d3⟩) (fun x hx=>by
    rcases List.mem_cons.1 hx with rfl|hx
    ·exact hem.1
    ·exact d2 x hx)
  have how:OwnS S w0 w1 L:=by
   rcases hw1 with rfl|rfl
   ·exact ho
   ·exact ho.drew
  have hkk:=zN (o':=.mapIter (some m) clock (seen.push e.born) clock) how i hi;rw[←hpe.1,←hpe.2] at hr;exact tN (cK hr) (knext p e _ hp (.inr trivial) hem.1 hpe.1.symm hpe.2.symm hs' hlt hkk)
theorem OE (i j:Nat){b m clock:Nat}{es:Array MapEntry}{seen:Array Nat}{e:MapEntry}{al:List (List UInt8×Value)}(ho:OwnS S w0 w L)(hi:L[i]?=some (.obj b (.mapIter (some m) clock (seen.push e.born) clock)))(hj:L[j]?=some (.obj m (.map es clock)))
  (hf:MapF al es clock) (he:e∈es.toList):DoX P (MR (.pointer (some ⟨b,0,none⟩))) w PK K=K (.tuple #[e.key,e.val]) w:=
 aT (cK (run_entry_at (P:=P) w b m clock seen es clock e (ho.at_ i hi) (ho.at_ j hj) he hf.nodup))
end
end Eng
end
end Go.Proofs.YtoofficgclghoaaGreatDoor
