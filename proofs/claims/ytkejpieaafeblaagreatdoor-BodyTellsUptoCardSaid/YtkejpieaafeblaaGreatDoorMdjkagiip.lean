/- Texts that go together: SRef06 SParse PsA MkD MkE MkF EngZ MkG Plain19 KdA DcA SDocs SRef19 DcB DcC SSlcI SlcI DcD DcE DcF Plain19B DcG EngAC PsB PsC Plain07B Plain38 SLabel SRef38 SCut LbA LbB LbC LbD LbE DcH SLaw07 ObP ObQ ObR STexts OcTx SSame SApart Plain07C ObS0 ObT DcI LbF Plain38B Plain38C Plain38D Plain38E Plain06B Plain06C Plain06D Plain06E PsD PsE PsF. -/
import Derived.Test.YtkejpieaafeblaaGreatDoorRows
import Derived.Lib.Overlaps
import Derived.Laws.Externs
import Derived.Lib.Repeat
import Derived.Lib.Case
import Derived.Test.YtkejpieaafeblaaGreatDoorMfgajbapg
import Derived.Test.YtkejpieaafeblaaGreatDoorMjedaldak
import Derived.Test.YtkejpieaafeblaaGreatDoorMchjklpnl
import Derived.Test.YtkejpieaafeblaaGreatDoorMfpdmcfll
import Derived.Test.YtkejpieaafeblaaGreatDoorMlllolngj
set_option linter.defProp false
set_option linter.unusedSimpArgs false
set_option linter.unusedVariables false
set_option maxRecDepth 20000
open Go.Proofs.Tryz (prog)
namespace Go.Proofs.YtkejpieaafeblaaGreatDoor
section
open Eng
def nM(t0 w)(K:KT):=
 dx (mBox 58 t0) w K fun t1 w=>dx (mFA 58 t1 0) w K fun t3 w=>dx (aA 3 t3) w K fun t4 w=>dx (mEq .eql 3 (.tmp 4) (.const (iN 6)) t4 (iN 6)) w K fun t5 w=>IfX t5 (dx (mFA 58 t1 4) w K fun t6 w=>dx (aA 9 t6) w K fun t7 w=>dx (mEq .eql 9 (.tmp 7) (.const (.string ⟨#[91]⟩)) t7 (.string ⟨#[91]⟩)) w K fun t8 w=>gfx t8 (mFA 58 t1 4) w K fun t10 w=>gfx t8 (aA 9 t10) w K fun t11 w=>gfx t8 (mEq .eql 9 (.tmp 11) (.const (.string ⟨#[60,60]⟩)) t11 (.string ⟨#[60,60]⟩)) w K fun t12 w=>dx (aF t8 (.bool true) t12) w K fun t13 w=>K (.returned t13) w) (dx (mFA 58 t1 0) w K fun t14 w=>dx (aA 3 t14) w K fun t15 w=>dx (mEq .neq 3 (.tmp 15) (.const (iN 0)) t15 (iN 0)) w K fun t16 w=>gtx t16 (mFA 58 t1 0) w K fun t18 w=>gtx t16 (aA 3 t18) w K fun t19 w=>gtx t16 (mEq .neq 3 (.tmp 19) (.const (iN 5)) t19 (iN 5)) w K fun t20 w=>etx t16 t20 w fun t21 w=>gfx t21 (mFA 58 t1 4) w K fun t22 w=>gfx t21 (aA 9 t22) w K fun t23 w=>gfx t21 (mEq .eql 9 (.tmp 23) (.const (.string ⟨#[116,114,117,101]⟩)) t23 (.string ⟨#[116,114,117,101]⟩)) w K fun t24 w=>gtx t16 (aF t21 (.bool true) t24) w K fun t25 w=>etx t16 t25 w fun t26 w=>gfx t26 (mFA 58 t1 4) w K fun t27 w=>gfx t26 (aA 9 t27) w K fun t28 w=>gfx t26 (mEq .eql 9 (.tmp 28) (.const (.string ⟨#[102,97,108,115,101]⟩)) t28 (.string ⟨#[102,97,108,115,101]⟩)) w K fun t29 w=>gtx t16 (aF t26 (.bool true) t29) w K fun t30 w=>etx t16 t30 w fun t31 w=>gfx t31 (mFA 58 t1 4) w K fun t32 w=>gfx t31 (aA 9 t32) w K fun t33 w=>gfx t31 (mEq .eql 9 (.tmp 33) (.const (.string ⟨#[110,117,108,108]⟩)) t33 (.string ⟨#[110,117,108,108]⟩)) w K fun t34 w=>gtx t16 (aF t31 (.bool true) t34) w K fun t35 w=>dx (aF t16 t35 (.bool false)) w K fun t36 w=>K (.returned t36) w)
theorem uM{t0 w K}(h:nM t0 w K):Calls prog 101 #[t0] w K:=cw Tryz.func101 rfl rfl (by kernel_rfl) h
def sU(t0 t1 w)(K:KT):=
 dx (mBox 58 t1) w K fun t3 w=>dx (mFA 58 t3 3) w K fun t10 w=>dx (aA 2 t10) w K fun t11 w=>dx (mBin .lss 2 t11 (iN 1)) w K fun t12 w=>gfx t12 (mFA 58 t3 3) w K fun t14 w=>gfx t12 (aA 2 t14) w K fun t15 w=>gfx t12 (mBin .gtr 2 t15 (iN 8191)) w K fun t16 w=>dx (aF t12 (.bool true) t16) w K fun t17 w=>IfX t17 (K (.returned (.tuple #[(iN 0),(iN 0),(.bool false)])) w) (dx (mFA 58 t3 2) w K fun t20 w=>dx (aA 3 t20) w K fun t21 w=>cx 67 #[t0,t21] w K fun t22 w=>dx (mExt t22 0) w K fun t23 w=>dx (mExt t22 1) w K fun t24 w=>dx (aM 58) w K fun t7 w=>dx (aC 58 t7 t23) w K fun _ w=>dx (mEq .neq 30 (.tmp 25) (.const (iN 0)) t24 (iN 0)) w K fun t26 w=>gfx t26 (mFA 58 t7 0) w K fun t28 w=>gfx t26 (aA 3 t28) w K fun t29 w=>gfx t26 (mEq .neq 3 (.tmp 29) (.const (iN 1)) t29 (iN 1)) w K fun t30 w=>dx (aF t26 (.bool true) t30) w K fun t31 w=>gfx t31 (mFA 58 t7 3) w K fun t33 w=>gfx t31 (aA 2 t33) w K fun t34 w=>gfx t31 (mBin .lss 2 t34 (iN 0)) w K fun t35 w=>dx (aF t31 (.bool true) t35) w K fun t36 w=>gfx t36 (mFA 58 t7 3) w K fun t38 w=>gfx t36 (aA 2 t38) w K fun t39 w=>gfx t36 (mBin .gtr 2 t39 (iN 65535)) w K fun t40 w=>dx (aF t36 (.bool true) t40) w K fun t41 w=>IfX t41 (K (.returned (.tuple #[(iN 0),(iN 0),(.bool false)])) w) (dx (mFA 58 t7 2) w K fun t44 w=>dx (aA 3 t44) w K fun t45 w=>cx 67 #[t0,t45] w K fun t46 w=>dx (mExt t46 0) w K fun t47 w=>dx (mExt t46 1) w K fun t48 w=>dx (aM 58) w K fun t9 w=>dx (aC 58 t9 t47) w K fun _ w=>QuietX w (fun C1=>QDo prog C1 (mFA 58 t7 3) fun t49=>QDo prog C1 (aA 2 t49) fun t50=>QDo prog C1 (mFA 58 t9 2) fun t51=>QDo prog C1 (aA 3 t51) fun t52=>QDo prog C1 (mEq .eql 30 (.tmp 53) (.const (iN 0)) t48 (iN 0)) fun t54=>GQ t54 true (fun E=>QDo prog C1 (mFA 58 t9 0) E) fun t56=>GQ t54 true (fun E=>QDo prog C1 (aA 3 t56) E) fun t57=>GQ t54 true (fun E=>QDo prog C1 (mEq .eql 3 (.tmp 57) (.const (iN 5)) t57 (iN 5)) E) fun t58=>QDo prog C1 (aF t54 t58 (.bool false)) fun t59=>GQ t59 true (fun E=>QDo prog C1 (mFA 58 t9 4) E) fun t61=>GQ t59 true (fun E=>QDo prog C1 (aA 9 t61) E) fun t62=>GQ t59 true (fun E=>QDo prog C1 (mEq .eql 9 (.tmp 62) (.const (.string ⟨#[82]⟩)) t62 (.string ⟨#[82]⟩)) E) fun t63=>QDo prog C1 (aF t59 t63 (.bool false)) fun t64=>
 ∀w,C1 w →
 K (.returned (.tuple #[t50,t52,t64])) w)))
theorem BB{t0 t1 w K}(h:sU t0 t1 w K):Calls prog 102 #[t0,t1] w K:=cw Tryz.func102 rfl rfl (by kernel_rfl) h
def dL(t0 t1 t2 t6 t7 t8 t9 t11 w)(N1:JT)(K:KT):=
 dx (mEq .neq 30 (.tmp 52) (.const (iN 0)) t11 (iN 0)) w K fun t53 w=>IfX t53 (dx (aJ 25 #[]) w K fun t54 w=>dx (aC 25 t6 t54) w K fun _ w=>RetX prog [.cell t6 25,.val (iN 0),.val t11] w K) (dx (mBin .add 3 t2 (iN 1)) w K fun t60 w=>cx 66 #[t0,t1,t60] w K fun t61 w=>dx (mExt t61 0) w K fun t62 w=>dx (mExt t61 1) w K fun t63 w=>dx (mExt t61 2) w K fun t64 w=>dx (aM 25) w K fun t12 w=>dx (aC 25 t12 t62) w K fun _ w=>dx (mEq .neq 30 (.tmp 65) (.const (iN 0)) t64 (iN 0)) w K fun t66 w=>IfX t66 (dx (aJ 25 #[]) w K fun t67 w=>dx (aC 25 t6 t67) w K fun _ w=>RetX prog [.cell t6 25,.val (iN 0),.val t64] w K) (dx (mFA 25 t9 5) w K fun t69 w=>dx (aA 23 t69) w K fun t70 w=>dx (aA 25 t12) w K fun t71 w=>dx (aS 23 1 #[(0,t71)]) w K fun t72 w=>dx (mB .append #[23,23] 23 #[false,false] #[t70,t72]) w K fun t73 w=>dx (mFA 25 t9 5) w K fun t74 w=>dx (aC 23 t74 t73) w K fun _ w=>N1 [t63,t7,t8] w))
def lH(t0 t1 t2 t6 t7 t8 t9 w)(N1:JT)(K:KT):=
 cx 67 #[t0,t1] w K fun t18 w=>dx (mExt t18 0) w K fun t19 w=>dx (mExt t18 1) w K fun t20 w=>dx (aM 58) w K fun t10 w=>dx (aC 58 t10 t19) w K fun _ w=>dx (mEq .eql 30 (.tmp 21) (.const (iN 0)) t20 (iN 0)) w K fun t22 w=>gtx t22 (mFA 58 t10 0) w K fun t24 w=>gtx t22 (aA 3 t24) w K fun t25 w=>gtx t22 (mEq .eql 3 (.tmp 25) (.const (iN 6)) t25 (iN 6)) w K fun t26 w=>dx (aF t22 t26 (.bool false)) w K fun t27 w=>gtx t27 (mFA 58 t10 4) w K fun t29 w=>gtx t27 (aA 9 t29) w K fun t30 w=>gtx t27 (mEq .eql 9 (.tmp 30) (.const (.string ⟨#[93]⟩)) t30 (.string ⟨#[93]⟩)) w K fun t31 w=>dx (aF t27 t31 (.bool false)) w K fun t32 w=>IfX t32 (HeldX w (fun S2 w=>HDo prog S2 (aA 25 t9) fun t33=>HDo prog (fun _=>True) (mFA 58 t10 2) fun t34=>HDo prog S2 (aA 3 t34) fun t35=>DoX prog (aC 25 t6 t33) w (pm1 (pm1 (pm1 (pm1 (pm1 (pk K)))))) fun _ w=>S2 w∧(RetX prog [.cell t6 25,.val t35,.val (iN 0)] w K))) (JoinX (fun J3=>dx (mEq .eql 30 (.tmp 36) (.const (iN 0)) t20 (iN 0)) w K fun t37 w=>gtx t37 (mFA 25 t9 5) w K fun t39 w=>gtx t37 (aA 23 t39) w K fun t40 w=>gtx t37 (mB .len #[23] 3 #[false] #[t40]) w K fun t41 w=>gtx t37 (mEq .eql 3 (.tmp 41) (.const (iN 8191)) t41 (iN 8191)) w K fun t42 w=>dx (aF t37 t42 (.bool false)) w K fun t43 w=>gtx t43 (aA 58 t10) w K fun t45 w=>ctx t43 101 #[t45] w K fun t46 w=>dx (aF t43 t46 (.bool false)) w K fun t47 w=>etx t47 t2 w fun t49 w=>gtx t47 (mBin .lss 3 t49 (iN 24)) w K fun t50 w=>dx (aF t47 t50 (.bool false)) w K fun t51 w=>IfX t51 (J3 [(iN 6)] w) (J3 [t20] w)) (fun vs3 w=>∀_:Sg,dL t0 t1 t2 t6 t7 t8 t9 (vs3.getD 0 undef) w N1 K))
def gI(t0 t1 t2 w)(K:KT):=
 dx (aM 25) w K fun t6 w=>dx (aJ 25 #[(0,(iN 6))]) w K fun t14 w=>dx (aM 25) w K fun t9 w=>dx (aC 25 t9 t14) w K fun _ w=>LoopX [t1,(iN 0),(iN 0)] w (fun vs1 w N1=>∀_:Sg,lH t0 (vs1.getD 0 undef) t2 t6 (vs1.getD 1 undef) (vs1.getD 2 undef) t9 w N1 K)
theorem wU (t0 t1 t2:Value)(w:World)(K:Ending→World→Prop):wpX prog 76 [(7,[11])] [(2,[1,7,8])] none (aY Tryz.f109) (topQ prog [.cell 6 25,.tmp 7,.tmp 8] K) (aR [t0,t1,t2]) [] w=gI t0 t1 t2 w K:=by kernel_rfl
theorem xF {t0 t1 t2:Value}{w:World}{K:Ending→World→Prop}(h:gI t0 t1 t2 w K):Calls prog 109 #[t0,t1,t2] w K:=
 aE Tryz.func109 rfl rfl rfl rfl (Eq.mpr (wU t0 t1 t2 w K) h)
def oW(t1 t3 t5 t6 t7 w)(N1:JT)(K:KT):=
 dx (mBin .gtr 3 t7 (iN 0)) w K fun t24 w=>gtx t24 (mFA 25 t3 4) w K fun t26 w=>gtx t24 (aA 22 t26) w K fun t27 w=>etx t24 t7 w fun t28 w=>gtx t24 (mBin .sub 3 t28 (iN 1)) w K fun t29 w=>gtx t24 (mIA 22 t27 t29) w K fun t30 w=>gtx t24 (aA 9 t30) w K fun t31 w=>etx t24 t1 w fun t32 w=>gtx t24 (mBin .gtr 9 t31 t32) w K fun t33 w=>dx (aF t24 t33 (.bool false)) w K fun t34 w=>IfX t34 (QuietX w (fun C2=>QDo prog C2 (mFA 25 t3 4) fun t35=>QDo prog C2 (aA 22 t35) fun t36=>QDo prog C2 (mFA 25 t3 4) fun t38=>QDo prog C2 (aA 22 t38) fun t39=>QDo prog C2 (mBin .sub 3 t7 (iN 1)) fun t41=>QDo prog C2 (mIA 22 t39 t41) fun t42=>QDo prog C2 (aA 9 t42) fun t43=>QDo prog C2 (mIA 22 t36 t7) fun t44=>
 ∀w,C2 w →
 dx (aC 9 t44 t43) w K fun _ w=>QuietX w (fun C3=>QDo prog C3 (mFA 25 t3 5) fun t45=>QDo prog C3 (aA 23 t45) fun t46=>QDo prog C3 (mFA 25 t3 5) fun t48=>QDo prog C3 (aA 23 t48) fun t49=>QDo prog C3 (mBin .sub 3 t7 (iN 1)) fun t51=>QDo prog C3 (mIA 23 t49 t51) fun t52=>QDo prog C3 (aA 25 t52) fun t53=>QDo prog C3 (mIA 23 t46 t7) fun t54=>
 ∀w,C3 w →
 dx (aC 25 t54 t53) w K fun _ w=>dx (mBin .sub 3 t7 (iN 1)) w K fun t56 w=>N1 [t56] w))) (dx (mFA 25 t3 4) w K fun t57 w=>dx (aA 22 t57) w K fun t58 w=>dx (mIA 22 t58 t7) w K fun t61 w=>dx (aC 9 t61 t1) w K fun _ w=>dx (mFA 25 t3 5) w K fun t62 w=>dx (aA 23 t62) w K fun t63 w=>dx (aA 25 t5) w K fun t65 w=>dx (mIA 23 t63 t7) w K fun t66 w=>dx (aC 25 t66 t65) w K fun _ w=>dx (aA 25 t3) w K fun t67 w=>dx (aC 25 t6 t67) w K fun _ w=>RetX prog [.cell t6 25] w K)
def kD(t0 t1 t2 w)(K:KT):=
 dx (mBox 25 t0) w K fun t3 w=>dx (mBox 25 t2) w K fun t5 w=>dx (aM 25) w K fun t6 w=>dx (mFA 25 t3 4) w K fun t8 w=>dx (aA 22 t8) w K fun t9 w=>dx (mB .len #[22] 3 #[false] #[t9]) w K fun t10 w=>dx (mFA 25 t3 4) w K fun t11 w=>dx (aA 22 t11) w K fun t12 w=>dx (aS 22 1 #[(0,t1)]) w K fun t14 w=>dx (mB .append #[22,22] 22 #[false,false] #[t12,t14]) w K fun t15 w=>dx (mFA 25 t3 4) w K fun t16 w=>dx (aC 22 t16 t15) w K fun _ w=>dx (mFA 25 t3 5) w K fun t17 w=>dx (aA 23 t17) w K fun t18 w=>dx (aA 25 t5) w K fun t19 w=>dx (aS 23 1 #[(0,t19)]) w K fun t20 w=>dx (mB .append #[23,23] 23 #[false,false] #[t18,t20]) w K fun t21 w=>dx (mFA 25 t3 5) w K fun t22 w=>dx (aC 23 t22 t21) w K fun _ w=>LoopX [t10] w (fun vs1 w N1=>∀_:Sg,oW t1 t3 t5 t6 (vs1.getD 0 undef) w N1 K)
theorem Az (t0 t1 t2:Value)(w:World)(K:Ending→World→Prop):wpX prog 68 [] [(4,[7])] none (aY Tryz.f160) (topQ prog [.cell 6 25] K) (aR [t0,t1,t2]) [] w=kD t0 t1 t2 w K:=by kernel_rfl
theorem Bl {t0 t1 t2:Value}{w:World}{K:Ending→World→Prop}(h:kD t0 t1 t2 w K):Calls prog 160 #[t0,t1,t2] w K:=
 aE Tryz.func160 rfl rfl rfl rfl (Eq.mpr (Az t0 t1 t2 w K) h)
def nI(t7 t8 t10 t15 w)(N1:JT):=
 N1 [t15,t7,t8,t10] w
def fI(t0 t2 t6 t7 t8 t9 t10 t11 t13 w)(N1 N3:JT)(K:KT):=
 dx (mB .len #[22] 3 #[false] #[t10]) w K fun t48 w=>dx (mBin .lss 3 t13 t48) w K fun t49 w=>IfX t49 (QuietX w (fun C4=>QDo prog C4 (mIA 22 t10 t13) fun t54=>QDo prog C4 (aA 9 t54) fun t55=>QDo prog C4 (mFA 58 t11 4) fun t56=>QDo prog C4 (aA 9 t56) fun t57=>QDo prog C4 (mEq .eql 9 (.tmp 55) (.tmp 57) t55 t57) fun t58=>
 ∀w,C4 w →
 IfX t58 (dx (aJ 25 #[]) w K fun t59 w=>dx (aC 25 t6 t59) w K fun _ w=>RetX prog [.cell t6 25,.val (iN 0),.val (iN 9)] w K) (dx (mBin .add 3 t13 (iN 1)) w K fun t51 w=>N3 [t7,t8,t51] w))) (dx (mB .len #[22] 3 #[false] #[t10]) w K fun t61 w=>dx (mEq .eql 3 (.tmp 61) (.const (iN 8191)) t61 (iN 8191)) w K fun t62 w=>IfX t62 (dx (aJ 25 #[]) w K fun t63 w=>dx (aC 25 t6 t63) w K fun _ w=>RetX prog [.cell t6 25,.val (iN 0),.val (iN 6)] w K) (dx (mFA 58 t11 4) w K fun t65 w=>dx (aA 9 t65) w K fun t66 w=>dx (aS 22 1 #[(0,t66)]) w K fun t67 w=>dx (mB .append #[22,22] 22 #[false,false] #[t10,t67]) w K fun t68 w=>dx (mFA 58 t11 2) w K fun t71 w=>dx (aA 3 t71) w K fun t72 w=>dx (mBin .add 3 t2 (iN 1)) w K fun t74 w=>cx 66 #[t0,t72,t74] w K fun t75 w=>dx (mExt t75 0) w K fun t76 w=>dx (mExt t75 1) w K fun t77 w=>dx (mExt t75 2) w K fun t78 w=>dx (aM 25) w K fun t14 w=>dx (aC 25 t14 t76) w K fun _ w=>dx (mEq .neq 30 (.tmp 79) (.const (iN 0)) t78 (iN 0)) w K fun t80 w=>IfX t80 (dx (aJ 25 #[]) w K fun t81 w=>dx (aC 25 t6 t81) w K fun _ w=>RetX prog [.cell t6 25,.val (iN 0),.val t78] w K) (JoinX (fun J5=>dx (mFA 25 t14 0) w K fun t83 w=>dx (aA 3 t83) w K fun t84 w=>dx (mEq .neq 3 (.tmp 84) (.const (iN 0)) t84 (iN 0)) w K fun t85 w=>IfX t85 (dx (aA 25 t9) w K fun t86 w=>dx (mFA 58 t11 4) w K fun t87 w=>dx (aA 9 t87) w K fun t88 w=>dx (aA 25 t14) w K fun t89 w=>cx 160 #[t86,t88,t89] w K fun t90 w=>dx (aC 25 t9 t90) w K fun _ w=>J5 [] w) (J5 [] w)) (fun vs5 w=>∀_:Sg,nI t7 t8 t68 t77 w N1))))
def oC(t0 t1 t2 t6 t7 t8 t9 t10 w)(N1:JT)(K:KT):=
 cx 67 #[t0,t1] w K fun t20 w=>dx (mExt t20 0) w K fun t21 w=>dx (mExt t20 1) w K fun t22 w=>dx (aM 58) w K fun t11 w=>dx (aC 58 t11 t21) w K fun _ w=>dx (mEq .neq 30 (.tmp 23) (.const (iN 0)) t22 (iN 0)) w K fun t24 w=>IfX t24 (dx (aJ 25 #[]) w K fun t25 w=>dx (aC 25 t6 t25) w K fun _ w=>RetX prog [.cell t6 25,.val (iN 0),.val t22] w K) (dx (mFA 58 t11 0) w K fun t27 w=>dx (aA 3 t27) w K fun t28 w=>dx (mEq .eql 3 (.tmp 28) (.const (iN 6)) t28 (iN 6)) w K fun t29 w=>gtx t29 (mFA 58 t11 4) w K fun t31 w=>gtx t29 (aA 9 t31) w K fun t32 w=>gtx t29 (mEq .eql 9 (.tmp 32) (.const (.string ⟨#[62,62]⟩)) t32 (.string ⟨#[62,62]⟩)) w K fun t33 w=>dx (aF t29 t33 (.bool false)) w K fun t34 w=>IfX t34 (HeldX w (fun S2 w=>HDo prog S2 (aA 25 t9) fun t35=>HDo prog (fun _=>True) (mFA 58 t11 2) fun t36=>HDo prog S2 (aA 3 t36) fun t37=>DoX prog (aC 25 t6 t35) w (pm1 (pm1 (pm1 (pm1 (pm1 (pk K)))))) fun _ w=>S2 w∧(RetX prog [.cell t6 25,.val t37,.val (iN 0)] w K))) (dx (mFA 58 t11 0) w K fun t38 w=>dx (aA 3 t38) w K fun t39 w=>dx (mEq .eql 3 (.tmp 39) (.const (iN 0)) t39 (iN 0)) w K fun t40 w=>IfX t40 (dx (aJ 25 #[]) w K fun t41 w=>dx (aC 25 t6 t41) w K fun _ w=>RetX prog [.cell t6 25,.val (iN 0),.val (iN 4)] w K) (dx (mFA 58 t11 0) w K fun t42 w=>dx (aA 3 t42) w K fun t43 w=>dx (mEq .neq 3 (.tmp 43) (.const (iN 4)) t43 (iN 4)) w K fun t44 w=>IfX t44 (dx (aJ 25 #[]) w K fun t45 w=>dx (aC 25 t6 t45) w K fun _ w=>RetX prog [.cell t6 25,.val (iN 0),.val (iN 3)] w K) (LoopX [t7,t8,(iN 0)] w (fun vs3 w N3=>∀_:Sg,fI t0 t2 t6 (vs3.getD 0 undef) (vs3.getD 1 undef) t9 t10 t11 (vs3.getD 2 undef) w N1 N3 K)))))
def iY(t0 t1 t2 w)(K:KT):=
 dx (aM 25) w K fun t6 w=>dx (aJ 25 #[(0,(iN 7))]) w K fun t16 w=>dx (aM 25) w K fun t9 w=>dx (aC 25 t9 t16) w K fun _ w=>LoopX [t1,(iN 0),(iN 0),(.slice none 0 0)] w (fun vs1 w N1=>∀_:Sg,oC t0 (vs1.getD 0 undef) t2 t6 (vs1.getD 1 undef) (vs1.getD 2 undef) t9 (vs1.getD 3 undef) w N1 K)
theorem Ad (t0 t1 t2:Value)(w:World)(K:Ending→World→Prop):wpX prog 92 [(25,[])] [(3,[1,7,8,10]),(13,[7,8,13])] none (aY Tryz.f110) (topQ prog [.cell 6 25,.tmp 7,.tmp 8] K) (aR [t0,t1,t2]) [] w=iY t0 t1 t2 w K:=by kernel_rfl
theorem zF {t0 t1 t2:Value}{w:World}{K:Ending→World→Prop}(h:iY t0 t1 t2 w K):Calls prog 110 #[t0,t1,t2] w K:=
 aE Tryz.func110 rfl rfl rfl rfl (Eq.mpr (Ad t0 t1 t2 w K) h)
def fK(t0 t1 t2 w)(K:KT):=
 dx (aM 25) w K fun t6 w=>cx 67 #[t0,t1] w K fun t17 w=>dx (mExt t17 0) w K fun t18 w=>dx (mExt t17 1) w K fun t19 w=>dx (aM 58) w K fun t9 w=>dx (aC 58 t9 t18) w K fun _ w=>dx (mEq .neq 30 (.tmp 20) (.const (iN 0)) t19 (iN 0)) w K fun t21 w=>IfX t21 (dx (aJ 25 #[]) w K fun t22 w=>dx (aC 25 t6 t22) w K fun _ w=>RetX prog [.cell t6 25,.val (iN 0),.val t19] w K) (dx (mFA 58 t9 0) w K fun t24 w=>dx (aA 3 t24) w K fun t25 w=>dx (mEq .eql 3 (.tmp 25) (.const (iN 0)) t25 (iN 0)) w K fun t26 w=>IfX t26 (dx (aJ 25 #[]) w K fun t27 w=>dx (aC 25 t6 t27) w K fun _ w=>RetX prog [.cell t6 25,.val (iN 0),.val (iN 4)] w K) (dx (aA 58 t9) w K fun t28 w=>cx 101 #[t28] w K fun t29 w=>dx (mUn .not t29) w K fun t30 w=>IfX t30 (dx (aJ 25 #[]) w K fun t31 w=>dx (aC 25 t6 t31) w K fun _ w=>RetX prog [.cell t6 25,.val (iN 0),.val (iN 3)] w K) (dx (mBin .gtr 3 t2 (iN 24)) w K fun t33 w=>IfX t33 (dx (aJ 25 #[]) w K fun t34 w=>dx (aC 25 t6 t34) w K fun _ w=>RetX prog [.cell t6 25,.val (iN 0),.val (iN 7)] w K) (dx (mFA 58 t9 0) w K fun t35 w=>dx (aA 3 t35) w K fun t36 w=>dx (mEq .eql 3 (.tmp 36) (.const (iN 1)) t36 (iN 1)) w K fun t38 w=>IfX t38 (dx (aA 58 t9) w K fun t41 w=>cx 102 #[t0,t41] w K fun t42 w=>dx (mExt t42 0) w K fun t43 w=>dx (mExt t42 1) w K fun t44 w=>dx (mExt t42 2) w K fun t45 w=>IfX t45 (dx (mFA 58 t9 3) w K fun t47 w=>dx (aA 2 t47) w K fun t48 w=>cx 103 #[t48,t43] w K fun t50 w=>dx (aC 25 t6 t50) w K fun _ w=>RetX prog [.cell t6 25,.val t44,.val (iN 0)] w K) (HeldX w (fun S1 w=>HDo prog (fun _=>True) (mFA 58 t9 3) fun t52=>HDo prog S1 (aA 2 t52) fun t53=>HDo prog (fun _=>True) (mFA 58 t9 2) fun t55=>HDo prog S1 (aA 3 t55) fun t56=>CallX prog 104 #[t53] w (pm1 (pm1 (pm1 (pm1 (pm1 (pm1 (pk K))))))) fun t54 w=>S1 w∧(DoX prog (aC 25 t6 t54) w (pm1 (pm1 (pm1 (pm1 (pm1 (pm1 (pk K))))))) fun _ w=>S1 w∧(RetX prog [.cell t6 25,.val t56,.val (iN 0)] w K))))) (dx (mEq .eql 3 (.tmp 36) (.const (iN 2)) t36 (iN 2)) w K fun t58 w=>IfX t58 (HeldX w (fun S2 w=>HDo prog (fun _=>True) (mFA 58 t9 3) fun t59=>HDo prog S2 (aA 2 t59) fun t60=>HDo prog (fun _=>True) (mFA 58 t9 2) fun t62=>HDo prog S2 (aA 3 t62) fun t63=>CallX prog 105 #[t60] w (pm1 (pm1 (pm1 (pm1 (pm1 (pm1 (pk K))))))) fun t61 w=>S2 w∧(DoX prog (aC 25 t6 t61) w (pm1 (pm1 (pm1 (pm1 (pm1 (pm1 (pk K))))))) fun _ w=>S2 w∧(RetX prog [.cell t6 25,.val t63,.val (iN 0)] w K)))) (dx (mEq .eql 3 (.tmp 36) (.const (iN 3)) t36 (iN 3)) w K fun t65 w=>IfX t65 (HeldX w (fun S3 w=>HDo prog (fun _=>True) (mFA 58 t9 4) fun t66=>HDo prog S3 (aA 9 t66) fun t67=>HDo prog (fun _=>True) (mFA 58 t9 2) fun t69=>HDo prog S3 (aA 3 t69) fun t70=>CallX prog 106 #[t67] w (pm1 (pm1 (pm1 (pm1 (pm1 (pm1 (pk K))))))) fun t68 w=>S3 w∧(DoX prog (aC 25 t6 t68) w (pm1 (pm1 (pm1 (pm1 (pm1 (pm1 (pk K))))))) fun _ w=>S3 w∧(RetX prog [.cell t6 25,.val t70,.val (iN 0)] w K)))) (dx (mEq .eql 3 (.tmp 36) (.const (iN 4)) t36 (iN 4)) w K fun t72 w=>IfX t72 (HeldX w (fun S4 w=>HDo prog (fun _=>True) (mFA 58 t9 4) fun t73=>HDo prog S4 (aA 9 t73) fun t74=>HDo prog (fun _=>True) (mFA 58 t9 2) fun t76=>HDo prog S4 (aA 3 t76) fun t77=>CallX prog 107 #[t74] w (pm1 (pm1 (pm1 (pm1 (pm1 (pm1 (pk K))))))) fun t75 w=>S4 w∧(DoX prog (aC 25 t6 t75) w (pm1 (pm1 (pm1 (pm1 (pm1 (pm1 (pk K))))))) fun _ w=>S4 w∧(RetX prog [.cell t6 25,.val t77,.val (iN 0)] w K)))) (dx (mEq .eql 3 (.tmp 36) (.const (iN 5)) t36 (iN 5)) w K fun t79 w=>IfX t79 (dx (mFA 58 t9 4) w K fun t80 w=>dx (aA 9 t80) w K fun t81 w=>dx (mEq .eql 9 (.tmp 81) (.const (.string ⟨#[110,117,108,108]⟩)) t81 (.string ⟨#[110,117,108,108]⟩)) w K fun t82 w=>IfX t82 (HeldX w (fun S5 w=>HDo prog (fun _=>True) (aJ 25 #[]) fun t83=>HDo prog (fun _=>True) (mFA 58 t9 2) fun t84=>HDo prog S5 (aA 3 t84) fun t85=>DoX prog (aC 25 t6 t83) w (pm1 (pm1 (pm1 (pm1 (pm1 (pk K)))))) fun _ w=>S5 w∧(RetX prog [.cell t6 25,.val t85,.val (iN 0)] w K))) (HeldX w (fun S6 w=>HDo prog (fun _=>True) (mFA 58 t9 4) fun t86=>HDo prog S6 (aA 9 t86) fun t87=>HDo prog (fun _=>True) (mEq .eql 9 (.tmp 87) (.const (.string ⟨#[116,114,117,101]⟩)) t87 (.string ⟨#[116,114,117,101]⟩)) fun t88=>HDo prog (fun _=>True) (mFA 58 t9 2) fun t90=>HDo prog S6 (aA 3 t90) fun t91=>CallX prog 108 #[t88] w (pm1 (pm1 (pm1 (pm1 (pm1 (pm1 (pm1 (pk K)))))))) fun t89 w=>S6 w∧(DoX prog (aC 25 t6 t89) w (pm1 (pm1 (pm1 (pm1 (pm1 (pm1 (pm1 (pk K)))))))) fun _ w=>S6 w∧(RetX prog [.cell t6 25,.val t91,.val (iN 0)] w K))))) (dx (mFA 58 t9 4) w K fun t92 w=>dx (aA 9 t92) w K fun t93 w=>dx (mEq .eql 9 (.tmp 93) (.const (.string ⟨#[91]⟩)) t93 (.string ⟨#[91]⟩)) w K fun t94 w=>IfX t94 (dx (mFA 58 t9 2) w K fun t96 w=>dx (aA 3 t96) w K fun t97 w=>cx 109 #[t0,t97,t2] w K fun t99 w=>dx (mExt t99 0) w K fun t100 w=>dx (mExt t99 1) w K fun t101 w=>dx (mExt t99 2) w K fun t102 w=>dx (aC 25 t6 t100) w K fun _ w=>RetX prog [.cell t6 25,.val t101,.val t102] w K) (dx (mFA 58 t9 2) w K fun t104 w=>dx (aA 3 t104) w K fun t105 w=>cx 110 #[t0,t105,t2] w K fun t107 w=>dx (mExt t107 0) w K fun t108 w=>dx (mExt t107 1) w K fun t109 w=>dx (mExt t107 2) w K fun t110 w=>dx (aC 25 t6 t108) w K fun _ w=>RetX prog [.cell t6 25,.val t109,.val t110] w K))))))))))
theorem jR{t0 t1 t2 w K}(h:fK t0 t1 t2 w K):Calls prog 66 #[t0,t1,t2] w K:=cw Tryz.func66 rfl rfl (by kernel_rfl) h
def mT(t0 t1 w)(K:KT):=
 dx (aM 25) w K fun t4 w=>dx (mBin .lss 3 t1 (iN 0)) w K fun t8 w=>efx t8 t1 w fun t10 w=>efx t8 t0 w fun t11 w=>gfx t8 (mB .len #[9] 3 #[false] #[t11]) w K fun t12 w=>gfx t8 (mBin .gtr 3 t10 t12) w K fun t13 w=>dx (aF t8 (.bool true) t13) w K fun t14 w=>IfX t14 (dx (aJ 25 #[]) w K fun t15 w=>dx (aC 25 t4 t15) w K fun _ w=>RetX prog [.cell t4 25,.val (iN 0),.val (iN 1)] w K) (cx 66 #[t0,t1,(iN 1)] w K fun t18 w=>dx (mExt t18 0) w K fun t19 w=>dx (mExt t18 1) w K fun t20 w=>dx (mExt t18 2) w K fun t21 w=>dx (aC 25 t4 t19) w K fun _ w=>RetX prog [.cell t4 25,.val t20,.val t21] w K)
theorem uD{t0 t1 w K}(h:mT t0 t1 w K):Calls prog 31 #[t0,t1] w K:=cw Tryz.func31 rfl rfl (by kernel_rfl) h
end
section
open Eng
def qY(t0 t1 w)(K:KT):=
 dx (aM 58) w K fun t4 w=>dx (mNil t0) w K fun t10 w=>dx (mFA 130 t10 0) w K fun t11 w=>dx (aA 9 t11) w K fun t12 w=>cx 35 #[t12,t1] w K fun t14 w=>dx (mExt t14 0) w K fun t15 w=>dx (mExt t14 1) w K fun t16 w=>dx (aM 58) w K fun t6 w=>dx (aC 58 t6 t15) w K fun _ w=>dx (aA 58 t6) w K fun t17 w=>dx (mEq .eql 30 (.tmp 18) (.const (iN 0)) t16 (iN 0)) w K fun t19 w=>dx (aC 58 t4 t17) w K fun _ w=>RetX prog [.cell t4 58,.val t19] w K
theorem Aj{t0 t1 w K}(h:qY t0 t1 w K):Calls prog 246 #[t0,t1] w K:=cw Tryz.func246 rfl rfl (by kernel_rfl) h
def oB(t0 t2 t3 w)(K:KT):=
 dx (mFA 58 t3 2) w K fun t26 w=>dx (aA 3 t26) w K fun t27 w=>dx (mNil t0) w K fun t28 w=>dx (mFA 130 t28 1) w K fun t29 w=>dx (aC 3 t29 t27) w K fun _ w=>dx (aA 58 t3) w K fun t30 w=>dx (aC 58 t2 t30) w K fun _ w=>RetX prog [.cell t2 58] w K
def mN(t0 t2 t3 w)(K:KT):=
 JoinX (fun J3=>dx (mFA 58 t3 0) w K fun t21 w=>dx (aA 3 t21) w K fun t22 w=>dx (mEq .eql 3 (.tmp 22) (.const (iN 0)) t22 (iN 0)) w K fun t23 w=>IfX t23 (dx (sP 198 (iN 4)) w K fun t24 w=>dx (jP t24) w K fun _ w=>J3 [] w) (J3 [] w)) (fun vs3 w=>∀_:Sg,oB t0 t2 t3 w K)
def dY(t0 t2 t3 t4 w)(K:KT):=
 JoinX (fun J2=>dx (mEq .neq 30 (.tmp 17) (.const (iN 0)) t4 (iN 0)) w K fun t18 w=>IfX t18 (dx (sP 198 t4) w K fun t20 w=>dx (jP t20) w K fun _ w=>J2 [] w) (J2 [] w)) (fun vs2 w=>∀_:Sg,mN t0 t2 t3 w K)
def iU(t0 w)(K:KT):=
 dx (aM 58) w K fun t2 w=>HeldX w (fun S1 w=>HDo prog (fun _=>True) (mNil t0) fun t7=>HDo prog (fun _=>True) (mFA 130 t7 0) fun t8=>HDo prog S1 (aA 9 t8) fun t9=>HDo prog (fun _=>True) (mNil t0) fun t11=>HDo prog (fun _=>True) (mFA 130 t11 1) fun t12=>HDo prog S1 (aA 3 t12) fun t13=>(CallX prog 35 #[t9,t13] w (pm1 (pm1 (pm1 (pm1 (pm1 (pm1 (pm1 (pm1 (pm1 (pm1 (pm1 (pm1 (pk K))))))))))))) fun t14 w=>(HDo prog (fun _=>True) (mExt t14 0) fun t15=>HDo prog (fun _=>True) (mExt t14 1) fun t16=>DoX prog (aM 58) w (pm1 (pm1 (pm1 (pm1 (pm1 (pm1 (pm1 (pm1 (pm1 (pm1 (pm1 (pm1 (pk K))))))))))))) fun t3 w=>S1 w∧(DoX prog (aC 58 t3 t15) w (pm1 (pm1 (pm1 (pm1 (pm1 (pm1 (pm1 (pm1 (pm1 (pm1 (pm1 (pm1 (pk K))))))))))))) fun _ w=>(dY t0 t2 t3 t16 w K))))∧(DoX prog (aM 58) w (pm1 (pm1 (pm1 (pm1 (pm1 (pm1 (pm1 (pm1 (pm1 (pm1 (pm1 (pm1 (pk K))))))))))))) fun t3_1 w=>S1 w∧(CallX prog 35 #[t9,t13] w (pm1 (pm1 (pm1 (pm1 (pm1 (pm1 (pm1 (pm1 (pm1 (pm1 (pm1 (pm1 (pk K))))))))))))) fun t14_1 w=>(HDo prog (fun _=>True) (mExt t14_1 0) fun t15_1=>HDo prog (fun _=>True) (mExt t14_1 1) fun t16_1=>DoX prog (aC 58 t3_1 t15_1) w (pm1 (pm1 (pm1 (pm1 (pm1 (pm1 (pm1 (pm1 (pm1 (pm1 (pm1 (pm1 (pk K))))))))))))) fun _ w=>(dY t0 t2 t3_1 t16_1 w K)))))
theorem yQ (t0:Value)(w:World)(K:Ending→World→Prop):wpX prog 31 [(4,[]),(6,[])] [] none (aY Tryz.f159) (topQ prog [.cell 2 58] K) (aR [t0]) [] w=iU t0 w K:=by kernel_rfl
theorem yL {t0:Value}{w:World}{K:Ending→World→Prop}(h:iU t0 w K):Calls prog 159 #[t0] w K:=
 aE Tryz.func159 rfl rfl rfl rfl (Eq.mpr (yQ t0 w K) h)
def FP(t0 t1 t2 w)(K:KT):=
 dx (mBox 58 t0) w K fun t3 w=>dx (mFA 58 t3 0) w K fun t7 w=>dx (aA 3 t7) w K fun t8 w=>dx (mEq .eql 3 (.tmp 8) (.tmp 9) t8 t1) w K fun t10 w=>gtx t10 (mFA 58 t3 4) w K fun t12 w=>gtx t10 (aA 9 t12) w K fun t13 w=>etx t10 t2 w fun t14 w=>gtx t10 (mEq .eql 9 (.tmp 13) (.tmp 14) t13 t14) w K fun t15 w=>dx (aF t10 t15 (.bool false)) w K fun t16 w=>K (.returned t16) w
theorem Hr{t0 t1 t2 w K}(h:FP t0 t1 t2 w K):Calls prog 247 #[t0,t1,t2] w K:=cw Tryz.func247 rfl rfl (by kernel_rfl) h
def Cx(t0 w)(K:KT):=
 dx (mBox 58 t0) w K fun t1 w=>dx (mFA 58 t1 0) w K fun t3 w=>dx (aA 3 t3) w K fun t4 w=>dx (mEq .eql 3 (.tmp 4) (.const (iN 5)) t4 (iN 5)) w K fun t6 w=>IfX t6 (dx (mFA 58 t1 4) w K fun t7 w=>dx (aA 9 t7) w K fun t8 w=>dx (mEq .eql 9 (.tmp 8) (.const (.string ⟨#[116,114,117,101]⟩)) t8 (.string ⟨#[116,114,117,101]⟩)) w K fun t9 w=>gfx t9 (mFA 58 t1 4) w K fun t11 w=>gfx t9 (aA 9 t11) w K fun t12 w=>gfx t9 (mEq .eql 9 (.tmp 12) (.const (.string ⟨#[102,97,108,115,101]⟩)) t12 (.string ⟨#[102,97,108,115,101]⟩)) w K fun t13 w=>dx (aF t9 (.bool true) t13) w K fun t14 w=>gfx t14 (mFA 58 t1 4) w K fun t16 w=>gfx t14 (aA 9 t16) w K fun t17 w=>gfx t14 (mEq .eql 9 (.tmp 17) (.const (.string ⟨#[110,117,108,108]⟩)) t17 (.string ⟨#[110,117,108,108]⟩)) w K fun t18 w=>dx (aF t14 (.bool true) t18) w K fun t19 w=>K (.returned t19) w) (dx (mEq .eql 3 (.tmp 4) (.const (iN 6)) t4 (iN 6)) w K fun t21 w=>IfX t21 (dx (mFA 58 t1 4) w K fun t22 w=>dx (aA 9 t22) w K fun t23 w=>dx (mEq .eql 9 (.tmp 23) (.const (.string ⟨#[91]⟩)) t23 (.string ⟨#[91]⟩)) w K fun t24 w=>gfx t24 (mFA 58 t1 4) w K fun t26 w=>gfx t24 (aA 9 t26) w K fun t27 w=>gfx t24 (mEq .eql 9 (.tmp 27) (.const (.string ⟨#[60,60]⟩)) t27 (.string ⟨#[60,60]⟩)) w K fun t28 w=>dx (aF t24 (.bool true) t28) w K fun t29 w=>K (.returned t29) w) (K (.returned (.bool true)) w))
theorem EF{t0 w K}(h:Cx t0 w K):Calls prog 205 #[t0] w K:=cw Tryz.func205 rfl rfl (by kernel_rfl) h
def sQ(t0 t1 w)(K:KT):=
 dx (mBox 58 t1) w K fun t3 w=>dx (aM 25) w K fun t4 w=>dx (mFA 58 t3 3) w K fun t9 w=>dx (aA 2 t9) w K fun t10 w=>dx (mBin .lss 2 t10 (iN 1)) w K fun t11 w=>gfx t11 (mFA 58 t3 3) w K fun t13 w=>gfx t11 (aA 2 t13) w K fun t14 w=>gfx t11 (mBin .gtr 2 t14 (iN 8191)) w K fun t15 w=>dx (aF t11 (.bool true) t15) w K fun t16 w=>IfX t16 (dx (aJ 25 #[]) w K fun t17 w=>dx (aC 25 t4 t17) w K fun _ w=>RetX prog [.cell t4 25,.val (.bool false)] w K) (dx (mFA 58 t3 2) w K fun t20 w=>dx (aA 3 t20) w K fun t21 w=>cx 246 #[t0,t21] w K fun t22 w=>dx (mExt t22 0) w K fun t23 w=>dx (mExt t22 1) w K fun t24 w=>dx (aM 58) w K fun t6 w=>dx (aC 58 t6 t23) w K fun _ w=>dx (mUn .not t24) w K fun t26 w=>gfx t26 (mFA 58 t6 0) w K fun t28 w=>gfx t26 (aA 3 t28) w K fun t29 w=>gfx t26 (mEq .neq 3 (.tmp 29) (.const (iN 1)) t29 (iN 1)) w K fun t30 w=>dx (aF t26 (.bool true) t30) w K fun t31 w=>gfx t31 (mFA 58 t6 3) w K fun t33 w=>gfx t31 (aA 2 t33) w K fun t34 w=>gfx t31 (mBin .lss 2 t34 (iN 0)) w K fun t35 w=>dx (aF t31 (.bool true) t35) w K fun t36 w=>gfx t36 (mFA 58 t6 3) w K fun t38 w=>gfx t36 (aA 2 t38) w K fun t39 w=>gfx t36 (mBin .gtr 2 t39 (iN 65535)) w K fun t40 w=>dx (aF t36 (.bool true) t40) w K fun t41 w=>IfX t41 (dx (aJ 25 #[]) w K fun t42 w=>dx (aC 25 t4 t42) w K fun _ w=>RetX prog [.cell t4 25,.val (.bool false)] w K) (dx (mFA 58 t6 2) w K fun t45 w=>dx (aA 3 t45) w K fun t46 w=>cx 246 #[t0,t46] w K fun t47 w=>dx (mExt t47 0) w K fun t48 w=>dx (mExt t47 1) w K fun t49 w=>dx (aM 58) w K fun t8 w=>dx (aC 58 t8 t48) w K fun _ w=>dx (mUn .not t49) w K fun t51 w=>gfx t51 (aA 58 t8) w K fun t53 w=>cfx t51 247 #[t53,(iN 5),(.string ⟨#[82]⟩)] w K fun t54 w=>gfx t51 (mUn .not t54) w K fun t55 w=>dx (aF t51 (.bool true) t55) w K fun t56 w=>IfX t56 (dx (aJ 25 #[]) w K fun t57 w=>dx (aC 25 t4 t57) w K fun _ w=>RetX prog [.cell t4 25,.val (.bool false)] w K) (dx (mFA 58 t8 2) w K fun t59 w=>dx (aA 3 t59) w K fun t60 w=>dx (mNil t0) w K fun t61 w=>dx (mFA 130 t61 1) w K fun t62 w=>dx (aC 3 t62 t60) w K fun _ w=>dx (mFA 58 t3 3) w K fun t63 w=>dx (aA 2 t63) w K fun t64 w=>dx (mFA 58 t6 3) w K fun t65 w=>dx (aA 2 t65) w K fun t66 w=>cx 248 #[t64,t66] w K fun t67 w=>dx (aC 25 t4 t67) w K fun _ w=>RetX prog [.cell t4 25,.val (.bool true)] w K)))
theorem Bg{t0 t1 w K}(h:sQ t0 t1 w K):Calls prog 206 #[t0,t1] w K:=cw Tryz.func206 rfl rfl (by kernel_rfl) h
def kP(t0 t2 t4 t6 w)(K:KT):=
 dx (mFA 58 t4 0) w K fun t16 w=>dx (aA 3 t16) w K fun t17 w=>dx (mEq .eql 3 (.tmp 17) (.const (iN 1)) t17 (iN 1)) w K fun t19 w=>IfX t19 (dx (aA 58 t4) w K fun t22 w=>cx 206 #[t0,t22] w K fun t23 w=>dx (mExt t23 0) w K fun t24 w=>dx (mExt t23 1) w K fun t25 w=>dx (aM 25) w K fun t7 w=>dx (aC 25 t7 t24) w K fun _ w=>IfX t25 (dx (aA 25 t7) w K fun t27 w=>dx (aC 25 t6 t27) w K fun _ w=>RetX prog [.cell t6 25] w K) (dx (mFA 58 t4 3) w K fun t28 w=>dx (aA 2 t28) w K fun t29 w=>cx 49 #[t29] w K fun t30 w=>dx (aC 25 t6 t30) w K fun _ w=>RetX prog [.cell t6 25] w K)) (dx (mEq .eql 3 (.tmp 17) (.const (iN 2)) t17 (iN 2)) w K fun t32 w=>IfX t32 (dx (mFA 58 t4 3) w K fun t33 w=>dx (aA 2 t33) w K fun t34 w=>cx 207 #[t34] w K fun t35 w=>dx (aC 25 t6 t35) w K fun _ w=>RetX prog [.cell t6 25] w K) (dx (mEq .eql 3 (.tmp 17) (.const (iN 3)) t17 (iN 3)) w K fun t37 w=>IfX t37 (dx (mFA 58 t4 4) w K fun t38 w=>dx (aA 9 t38) w K fun t39 w=>cx 208 #[t39] w K fun t40 w=>dx (aC 25 t6 t40) w K fun _ w=>RetX prog [.cell t6 25] w K) (dx (mEq .eql 3 (.tmp 17) (.const (iN 4)) t17 (iN 4)) w K fun t42 w=>IfX t42 (dx (mFA 58 t4 4) w K fun t43 w=>dx (aA 9 t43) w K fun t44 w=>cx 209 #[t44] w K fun t45 w=>dx (aC 25 t6 t45) w K fun _ w=>RetX prog [.cell t6 25] w K) (dx (mEq .eql 3 (.tmp 17) (.const (iN 5)) t17 (iN 5)) w K fun t47 w=>IfX t47 (dx (mFA 58 t4 4) w K fun t48 w=>dx (aA 9 t48) w K fun t49 w=>dx (mEq .eql 9 (.tmp 49) (.const (.string ⟨#[110,117,108,108]⟩)) t49 (.string ⟨#[110,117,108,108]⟩)) w K fun t50 w=>IfX t50 (cx 36 #[] w K fun t51 w=>dx (aC 25 t6 t51) w K fun _ w=>RetX prog [.cell t6 25] w K) (dx (mFA 58 t4 4) w K fun t52 w=>dx (aA 9 t52) w K fun t53 w=>dx (mEq .eql 9 (.tmp 53) (.const (.string ⟨#[116,114,117,101]⟩)) t53 (.string ⟨#[116,114,117,101]⟩)) w K fun t54 w=>cx 210 #[t54] w K fun t55 w=>dx (aC 25 t6 t55) w K fun _ w=>RetX prog [.cell t6 25] w K)) (dx (mFA 58 t4 4) w K fun t56 w=>dx (aA 9 t56) w K fun t57 w=>dx (mEq .eql 9 (.tmp 57) (.const (.string ⟨#[91]⟩)) t57 (.string ⟨#[91]⟩)) w K fun t58 w=>IfX t58 (dx (mBin .add 3 t2 (iN 1)) w K fun t61 w=>cx 211 #[t0,t61] w K fun t62 w=>dx (aC 25 t6 t62) w K fun _ w=>RetX prog [.cell t6 25] w K) (dx (mBin .add 3 t2 (iN 1)) w K fun t65 w=>cx 212 #[t0,t65] w K fun t66 w=>dx (aC 25 t6 t66) w K fun _ w=>RetX prog [.cell t6 25] w K))))))
def eM(t0 t2 t4 t6 w)(K:KT):=
 JoinX (fun J2=>dx (mBin .geq 3 t2 (iN 24)) w K fun t14 w=>IfX t14 (dx (sP 198 (iN 7)) w K fun t15 w=>dx (jP t15) w K fun _ w=>J2 [] w) (J2 [] w)) (fun vs2 w=>∀_:Sg,kP t0 t2 t4 t6 w K)
def dZ(t0 t1 t2 w)(K:KT):=
 dx (mBox 58 t1) w K fun t4 w=>dx (aM 25) w K fun t6 w=>JoinX (fun J1=>dx (aA 58 t4) w K fun t9 w=>cx 205 #[t9] w K fun t10 w=>dx (mUn .not t10) w K fun t11 w=>IfX t11 (dx (sP 198 (iN 3)) w K fun t12 w=>dx (jP t12) w K fun _ w=>J1 [] w) (J1 [] w)) (fun vs1 w=>∀_:Sg,eM t0 t2 t4 t6 w K)
theorem uT (t0 t1 t2:Value)(w:World)(K:Ending→World→Prop):wpX prog 67 [(3,[]),(5,[])] [] none (aY Tryz.f158) (topQ prog [.cell 6 25] K) (aR [t0,t1,t2]) [] w=dZ t0 t1 t2 w K:=by kernel_rfl
theorem jO {t0 t1 t2:Value}{w:World}{K:Ending→World→Prop}(h:dZ t0 t1 t2 w K):Calls prog 158 #[t0,t1,t2] w K:=
 aE Tryz.func158 rfl rfl rfl rfl (Eq.mpr (uT t0 t1 t2 w K) h)
def lP(t0 t1 t5 t6 w)(N1:JT)(K:KT):=
 HeldX w (fun S3 w=>HDo prog (fun _=>True) (mFA 25 t5 5) fun t26=>HDo prog S3 (aA 23 t26) fun t27=>HDo prog S3 (aA 58 t6) fun t29=>CallX prog 158 #[t0,t29,t1] w (pm1 (pm1 (pm1 (pm1 (pm1 (pm1 (pk K))))))) fun t31 w=>S3 w∧(DoX prog (aS 23 1 #[(0,t31)]) w (pm1 (pm1 (pm1 (pm1 (pm1 (pm1 (pk K))))))) fun t32 w=>S3 w∧(DoX prog (mB .append #[23,23] 23 #[false,false] #[t27,t32]) w (pm1 (pm1 (pm1 (pm1 (pm1 (pm1 (pk K))))))) fun t33 w=>S3 w∧(HDo prog (fun _=>True) (mFA 25 t5 5) fun t34=>DoX prog (aC 23 t34 t33) w (pm1 (pm1 (pm1 (pm1 (pm1 (pm1 (pk K))))))) fun _ w=>(N1 [] w)))))
def lG(t0 t1 t4 t5 w)(N1:JT)(K:KT):=
 cx 159 #[t0] w K fun t9 w=>dx (aM 58) w K fun t6 w=>dx (aC 58 t6 t9) w K fun _ w=>dx (aA 58 t6) w K fun t10 w=>cx 247 #[t10,(iN 6),(.string ⟨#[93]⟩)] w K fun t11 w=>IfX t11 (dx (aA 25 t5) w K fun t12 w=>dx (aC 25 t4 t12) w K fun _ w=>RetX prog [.cell t4 25] w K) (JoinX (fun J2=>dx (aA 58 t6) w K fun t13 w=>cx 205 #[t13] w K fun t14 w=>etx t14 t1 w fun t16 w=>gtx t14 (mBin .lss 3 t16 (iN 24)) w K fun t17 w=>dx (aF t14 t17 (.bool false)) w K fun t18 w=>gtx t18 (mFA 25 t5 5) w K fun t20 w=>gtx t18 (aA 23 t20) w K fun t21 w=>gtx t18 (mB .len #[23] 3 #[false] #[t21]) w K fun t22 w=>gtx t18 (mBin .geq 3 t22 (iN 8191)) w K fun t23 w=>dx (aF t18 t23 (.bool false)) w K fun t24 w=>IfX t24 (dx (sP 198 (iN 6)) w K fun t25 w=>dx (jP t25) w K fun _ w=>J2 [] w) (J2 [] w)) (fun vs2 w=>∀_:Sg,lP t0 t1 t5 t6 w N1 K))
def gK(t0 t1 w)(K:KT):=
 dx (aM 25) w K fun t4 w=>dx (aJ 25 #[(0,(iN 6))]) w K fun t7 w=>dx (aM 25) w K fun t5 w=>dx (aC 25 t5 t7) w K fun _ w=>LoopX [] w (fun vs1 w N1=>∀_:Sg,lG t0 t1 t4 t5 w N1 K)
theorem vS (t0 t1:Value)(w:World)(K:Ending→World→Prop):wpX prog 35 [(7,[])] [(2,[])] none (aY Tryz.f211) (topQ prog [.cell 4 25] K) (aR [t0,t1]) [] w=gK t0 t1 w K:=by kernel_rfl
theorem xO {t0 t1:Value}{w:World}{K:Ending→World→Prop}(h:gK t0 t1 w K):Calls prog 211 #[t0,t1] w K:=
 aE Tryz.func211 rfl rfl rfl rfl (Eq.mpr (vS t0 t1 w K) h)
def nZ(t0 t1 t5 t6 w)(N1:JT)(K:KT):=
 HeldX w (fun S5 w=>HDo prog S5 (mFA 58 t6 4) fun t40=>HDo prog S5 (aA 9 t40) fun t41=>CallX prog 159 #[t0] w (pm1 (pm1 (pm1 (pm1 (pm1 (pm1 (pk K))))))) fun t44 w=>S5 w∧(CallX prog 158 #[t0,t44,t1] w (pm1 (pm1 (pm1 (pm1 (pm1 (pm1 (pk K))))))) fun t46 w=>S5 w∧(DoX prog (St 224 t5 t41 t46) w (pm1 (pm1 (pm1 (pm1 (pm1 (pm1 (pk K))))))) fun _ w=>S5 w∧(N1 [] w))))
def mM(t4 t5 t9 t68 t69 t70 w)(N3:JT)(K:KT):=
 dx (mBin .lss 3 t70 t69) w K fun t71 w=>IfX t71 (dx (mIA 22 t68 t70) w K fun t72 w=>dx (aA 9 t72) w K fun t73 w=>dx (mFA 25 t9 5) w K fun t74 w=>dx (aA 23 t74) w K fun t75 w=>dx (OU 224 t5 t73 false) w K fun t78 w=>dx (aS 23 1 #[(0,t78)]) w K fun t79 w=>dx (mB .append #[23,23] 23 #[false,false] #[t75,t79]) w K fun t80 w=>dx (mFA 25 t9 5) w K fun t81 w=>dx (aC 23 t81 t80) w K fun _ w=>dx (mBin .add 3 t70 (iN 1)) w K fun t82 w=>N3 [t82] w) (dx (aA 25 t9) w K fun t83 w=>dx (aC 25 t4 t83) w K fun _ w=>RetX prog [.cell t4 25] w K)
def fX(t4 t5 t9 t49 w)(N2:JT)(K:KT):=
 dx (Ll t49 false 0) w K fun t50 w=>dx (mExt t50 0) w K fun t51 w=>IfX t51 (dx (Rq t49) w K fun t52 w=>dx (mExt t52 0) w K fun t53 w=>dx (mExt t52 1) w K fun t54 w=>dx (aM 25) w K fun t11 w=>dx (aC 25 t11 t54) w K fun _ w=>dx (mFA 25 t11 0) w K fun t55 w=>dx (aA 3 t55) w K fun t56 w=>dx (mEq .neq 3 (.tmp 56) (.const (iN 0)) t56 (iN 0)) w K fun t57 w=>IfX t57 (dx (mFA 25 t9 4) w K fun t58 w=>dx (aA 22 t58) w K fun t59 w=>dx (aS 22 1 #[(0,t53)]) w K fun t61 w=>dx (mB .append #[22,22] 22 #[false,false] #[t59,t61]) w K fun t62 w=>dx (mFA 25 t9 4) w K fun t63 w=>dx (aC 22 t63 t62) w K fun _ w=>N2 [] w) (N2 [] w)) (dx (mFA 25 t9 4) w K fun t64 w=>dx (aA 22 t64) w K fun t65 w=>cx 249 #[t65] w K fun t66 w=>dx (mFA 25 t9 4) w K fun t67 w=>dx (aA 22 t67) w K fun t68 w=>dx (mB .len #[22] 3 #[false] #[t68]) w K fun t69 w=>LoopX [(iN 0)] w (fun vs3 w N3=>∀_:Sg,mM t4 t5 t9 t68 t69 (vs3.getD 0 undef) w N3 K))
def nT(t0 t1 t4 t5 w)(N1:JT)(K:KT):=
 cx 159 #[t0] w K fun t16 w=>dx (aM 58) w K fun t6 w=>dx (aC 58 t6 t16) w K fun _ w=>dx (aA 58 t6) w K fun t17 w=>cx 247 #[t17,(iN 6),(.string ⟨#[62,62]⟩)] w K fun t18 w=>IfX t18 (dx (aJ 25 #[(0,(iN 7))]) w K fun t47 w=>dx (aM 25) w K fun t9 w=>dx (aC 25 t9 t47) w K fun _ w=>dx (DB 224 t5) w K fun t49 w=>LoopX [] w (fun vs2 w N2=>∀_:Sg,fX t4 t5 t9 t49 w N2 K)) (dx (mFA 58 t6 4) w K fun t21 w=>dx (aA 9 t21) w K fun t22 w=>dx (OU 224 t5 t22 true) w K fun t23 w=>dx (mExt t23 0) w K fun t24 w=>dx (mExt t23 1) w K fun t25 w=>dx (aM 25) w K fun t7 w=>dx (aC 25 t7 t24) w K fun _ w=>JoinX (fun J4=>dx (mFA 58 t6 0) w K fun t27 w=>dx (aA 3 t27) w K fun t28 w=>dx (mEq .neq 3 (.tmp 28) (.const (iN 4)) t28 (iN 4)) w K fun t29 w=>IfX t29 (dx (sP 198 (iN 3)) w K fun t30 w=>dx (jP t30) w K fun _ w=>J4 [] w) (IfX t25 (dx (sP 198 (iN 9)) w K fun t33 w=>dx (jP t33) w K fun _ w=>J4 [] w) (dx (mB .len #[224] 3 #[false] #[t5]) w K fun t36 w=>dx (mBin .geq 3 t36 (iN 8191)) w K fun t37 w=>IfX t37 (dx (sP 198 (iN 6)) w K fun t38 w=>dx (jP t38) w K fun _ w=>J4 [] w) (J4 [] w)))) (fun vs4 w=>∀_:Sg,nZ t0 t1 t5 t6 w N1 K))
def iJ(t0 t1 w)(K:KT):=
 dx (aM 25) w K fun t4 w=>dx (mMap 224 none) w K fun t14 w=>LoopX [] w (fun vs1 w N1=>∀_:Sg,nT t0 t1 t4 t14 w N1 K)
theorem Am (t0 t1:Value)(w:World)(K:Ending→World→Prop):wpX prog 84 [(11,[])] [(2,[]),(14,[]),(20,[70])] none (aY Tryz.f212) (topQ prog [.cell 4 25] K) (aR [t0,t1]) [] w=iJ t0 t1 w K:=by kernel_rfl
theorem Ak {t0 t1:Value}{w:World}{K:Ending→World→Prop}(h:iJ t0 t1 w K):Calls prog 212 #[t0,t1] w K:=
 aE Tryz.func212 rfl rfl rfl rfl (Eq.mpr (Am t0 t1 w K) h)
def sR(t0 r w)(K:KT):=
 dx (mEq .eql 20 (.tmp 5) (.const .nilIface) r .nilIface) w K fun t7 w=>IfX t7 (K (.returned (.tuple #[])) w) (dx (mTA r 20 198 true) w K fun t8 w=>dx (mExt t8 1) w K fun t9 w=>dx (mExt t8 0) w K fun t10 w=>IfX t9 (dx (mNil t0) w K fun t13 w=>dx (aC 30 t13 t10) w K fun _ w=>K (.returned (.tuple #[])) w) (dx (jP r) w K fun _ w=>K (.returned (.tuple #[])) w))
theorem HM (t0 r:Value)(w:World)(K:Ending→World→Prop):wpX prog 14 [] [] none (Kl (aY Tryz.f157)) (topD prog [] K) (upd (aR [t0]) 5 r) [] w=sR t0 r w K:=by kernel_rfl
theorem yJ {t0:Value}{u:FrameMode}{w:World}{R:Ending→FrameMode→World→Prop}(h:sR t0 (recV u) w (fun e w=>R e (recM u) w)):CallsD prog 157 #[t0] u w R:=
 tY Tryz.func157 rfl rfl rfl rfl rfl rfl rfl rfl (Eq.mpr (HM t0 (recV u) w _) h)
def cK (x0:Value)(x1:Value)(K:Ending→World→Prop):=pd prog [.cell x0 25,.cell x1 30] K [{ target:=.fn (.func 157) #[],args:=#[x1] }]
def qB(t0 w)(K:KT):=
 dx (aM 25) w K fun t2 w=>dx (aM 30) w K fun t3 w=>CallX prog 159 #[t0] w (cK t2 t3 K) fun t6 w=>CallX prog 158 #[t0,t6,(iN 0)] w (cK t2 t3 K) fun t7 w=>DoX prog (aC 25 t2 t7) w (cK t2 t3 K) fun _ w=>DoX prog (aC 30 t3 (iN 0)) w (cK t2 t3 K) fun _ w=>kR prog [.cell t2 25,.cell t3 30] K [{ target:=.fn (.func 157) #[],args:=#[t3] }] .returning w
theorem zJ{t0 w K}(h:qB t0 w K):Calls prog 100 #[t0] w K:=cw Tryz.func100 rfl rfl (by kernel_rfl) h
def CO(t0 t1 w)(K:KT):=
 dx (aM 25) w K fun t4 w=>dx (mBin .lss 3 t1 (iN 0)) w K fun t11 w=>efx t11 t1 w fun t13 w=>efx t11 t0 w fun t14 w=>gfx t11 (mB .len #[9] 3 #[false] #[t14]) w K fun t15 w=>gfx t11 (mBin .gtr 3 t13 t15) w K fun t16 w=>dx (aF t11 (.bool true) t16) w K fun t17 w=>IfX t17 (dx (aJ 25 #[]) w K fun t18 w=>dx (aC 25 t4 t18) w K fun _ w=>RetX prog [.cell t4 25,.val (iN 0),.val (iN 1)] w K) (dx (aJ 130 #[(0,t0),(1,t1)]) w K fun t21 w=>dx (mBox 130 t21) w K fun t22 w=>cx 100 #[t22] w K fun t25 w=>dx (mExt t25 0) w K fun t26 w=>dx (mExt t25 1) w K fun t27 w=>dx (aM 25) w K fun t8 w=>dx (aC 25 t8 t26) w K fun _ w=>dx (mEq .neq 30 (.tmp 28) (.const (iN 0)) t27 (iN 0)) w K fun t29 w=>IfX t29 (dx (aJ 25 #[]) w K fun t30 w=>dx (aC 25 t4 t30) w K fun _ w=>RetX prog [.cell t4 25,.val (iN 0),.val t27] w K) (HeldX w (fun S1 w=>HDo prog S1 (aA 25 t8) fun t32=>HDo prog (fun _=>True) (mNil t22) fun t34=>HDo prog (fun _=>True) (mFA 130 t34 1) fun t35=>HDo prog S1 (aA 3 t35) fun t36=>DoX prog (aC 25 t4 t32) w (pm1 (pm1 (pm1 (pm1 (pm1 (pm1 (pm1 (pk K)))))))) fun _ w=>S1 w∧(RetX prog [.cell t4 25,.val t36,.val (iN 0)] w K))))
theorem E2{t0 t1 w K}(h:CO t0 t1 w K):Calls prog 61 #[t0,t1] w K:=cw Tryz.func61 rfl rfl (by kernel_rfl) h
end
section
open Eng Go.RowKit
 attribute [local congr] kS
section
variable {w:World}{PK:PKT}{K:VWP}{S:Nat→Prop}{w0:World}{L:List Ent}
theorem La (x:Lx.Tok)(ho:OwnS S w0 w L)(k:∀b w',OwnS S w0 w' (tokE b x::L)→K (.pointer (some ⟨b,0,none⟩)) w'):DoX prog (mBox 58 (tokV x)) w PK K:=
 cI (fun b=>.pointer (some ⟨b,0,none⟩)) (tokC x) 58 (fun _=>by kernel_rfl) ho k
theorem jS (i:Nat){b:Nat}{x y:Lx.Tok}(ho:OwnS S w0 w L)(hi:L[i]?=some (tokE b x))(k:∀w',OwnS S w0 w' (L.set i (tokE b y))→K undef w') :
  DoX prog (aC 58 (.pointer (some ⟨b,0,none⟩)) (tokV y)) w PK K:=HE i ho hi (new:=tokC y) U6 (KN y) rfl k
theorem tk_k (ho:OwnS S w0 w L)(i:Nat){b:Nat}{x:Lx.Tok}(hi:L[i]?=some (tokE b x)):DoX prog (aA 3 (.pointer (some ⟨b,0,none⟩))) w PK K=K (.int .i64 x.k) w:=bE nInt (ho.cell i hi 0 rfl)
theorem tk_t (ho:OwnS S w0 w L)(i:Nat){b:Nat}{x:Lx.Tok}(hi:L[i]?=some (tokE b x)):DoX prog (aA 3 (.pointer (some ⟨b,2,none⟩))) w PK K=K (.int .i64 x.t) w:=bE nInt (ho.cell i hi 2 rfl)
theorem tk_n (ho:OwnS S w0 w L)(i:Nat){b:Nat}{x:Lx.Tok}(hi:L[i]?=some (tokE b x)):DoX prog (aA 2 (.pointer (some ⟨b,3,none⟩))) w PK K=K (.int .i64 x.n) w:=bE nI65 (ho.cell i hi 3 rfl)
theorem tk_s (ho:OwnS S w0 w L)(i:Nat){b:Nat}{x:Lx.Tok}(hi:L[i]?=some (tokE b x)):DoX prog (aA 9 (.pointer (some ⟨b,4,none⟩))) w PK K=K (.string ⟨x.s.toArray⟩) w:=bE nStr (ho.cell i hi 4 rfl)
theorem tk_v (ho:OwnS S w0 w L)(i:Nat){b:Nat}{x:Lx.Tok}(hi:L[i]?=some (tokE b x)):DoX prog (aA 58 (.pointer (some ⟨b,0,none⟩))) w PK K=K (tokV x) w:=l_at (ho.agg i hi Fw)
theorem X2 (ho:OwnS S w0 w L)(i:Nat){b:Nat}{x:Lx.Tok}(hi:L[i]?=some (tokE b x)):(aA 3 (.pointer (some ⟨b,0,none⟩))).run prog w=.ok (.value (.int .i64 x.k)) w:=aL nInt (ho.cell i hi 0 rfl)
theorem Xz (ho:OwnS S w0 w L)(i:Nat){b:Nat}{x:Lx.Tok}(hi:L[i]?=some (tokE b x)):(aA 3 (.pointer (some ⟨b,2,none⟩))).run prog w=.ok (.value (.int .i64 x.t)) w:=aL nInt (ho.cell i hi 2 rfl)
theorem XT (ho:OwnS S w0 w L)(i:Nat){b:Nat}{x:Lx.Tok}(hi:L[i]?=some (tokE b x)):(aA 2 (.pointer (some ⟨b,3,none⟩))).run prog w=.ok (.value (.int .i64 x.n)) w:=aL nI65 (ho.cell i hi 3 rfl)
theorem WR (ho:OwnS S w0 w L)(i:Nat){b:Nat}{x:Lx.Tok}(hi:L[i]?=some (tokE b x)):(aA 9 (.pointer (some ⟨b,4,none⟩))).run prog w=.ok (.value (.string ⟨x.s.toArray⟩)) w:=aL nStr (ho.cell i hi 4 rfl)
theorem ft0:fOff prog 58 0=some 0:=by kernel_rfl
theorem ft2:fOff prog 58 2=some 2:=by kernel_rfl
theorem ft3:fOff prog 58 3=some 3:=by kernel_rfl
theorem ft4:fOff prog 58 4=some 4:=by kernel_rfl
theorem HD {f:Nat}{args:Array Value}{r:Lx.Tok×Int}{PK1 PK2 PK3 PK4 PK5:PKT}{K:Value→VWP}(ho:OwnS S w0 w L)(h:Ret prog f args w (fun v w'=>v=tokR r∧Below w.heap.size w w'))
  (k:∀b w',OwnS S w0 w' (tokE b r.1::L)→K (.int .i64 r.2) (.pointer (some ⟨b,0,none⟩)) w') :
  CallX prog f args w PK1 fun t w=>DoX prog (mExt t 0) w PK2 fun u w=>DoX prog (mExt t 1) w PK3 fun v w=>DoX prog (aM 58) w PK4 fun q w=>DoX prog (aC 58 q u) w PK5 fun _ w=>K v q w:=by
 refine aP ho h ?_;rintro v w1 rfl ho;rw[tokR,x_0,x_1];refine gJ ho fun b w2 ho=>?_;exact jS 0 ho rfl fun w3 ho=>k b w3 ho
end
theorem EB (t:Lx.Tok)(w:World):Ret prog 101 #[tokV t] w (fun v w'=>v=.bool (Ps.bG t)∧Below w.heap.size w w'):=by
 refine aO fun K hK=>uM ?_;unfold nM iN dx gtx gfx etx;refine La t (Own.start w) fun b w1 ho=>?_;have fin:∀{q:Bool},q=Ps.bG t→K (.returned (.bool q)) w1:=fun e=>hK _ _ ⟨by rw[e],ho.done⟩;by_cases h6:t.k=6
 ·by_cases h1:t.s=[91]
  ·simp only[rs,cO,cL,tk_k ho 0 rfl,tk_s ho 0 rfl,h6,h1,Yj,g_un];exact fin (by simp[Ps.bG,h6,h1])
  ·simp only[rs,cO,cL,tk_k ho 0 rfl,tk_s ho 0 rfl,h6,Yl h1,Yj,g_un];exact fin (by simp[Ps.bG,h6,h1])
 by_cases h0:t.k=0
 ·simp only[rs,cO,cL,tk_k ho 0 rfl,tk_s ho 0 rfl,h0,Yj,Yi,g_un,ne_eq,not_true,show ¬(0:Int)=6 by decide];exact fin (by simp[Ps.bG,h0])
 by_cases h5:t.k=5
 ·by_cases h1:t.s=Ps.tru
  ·have h1':t.s=[116,114,117,101]:=h1;simp only[rs,cO,cL,tk_k ho 0 rfl,tk_s ho 0 rfl,h5,h1',Yj,Yi,g_un,ne_eq,not_true,Yz,show ¬(5:Int)=6 by decide,show ¬(5:Int)=0 by decide];exact fin (by simp[Ps.bG,h5,h1])
  have h1':¬t.s=[116,114,117,101]:=h1;by_cases h2:t.s=Ps.fal
  ·have h2':t.s=[102,97,108,115,101]:=h2;simp only[rs,cO,cL,tk_k ho 0 rfl,tk_s ho 0 rfl,h5,h2',Yj,Yi,g_un,ne_eq,not_true,Yz,show ¬(5:Int)=6 by decide,show ¬(5:Int)=0 by decide,show ¬([102,97,108,115,101]:List UInt8)=[116,114,117,101] by decide];exact fin (by simp[Ps.bG,h5,h2])
  have h2':¬t.s=[102,97,108,115,101]:=h2;simp only[rs,cO,cL,tk_k ho 0 rfl,tk_s ho 0 rfl,h5,Yl h1',Yl h2',Yj,Yi,g_un,ne_eq,not_true,Yz,show ¬(5:Int)=6 by decide,show ¬(5:Int)=0 by decide];exact fin (by simp[Ps.bG,h5,h1,h2];first|exact Iff.rfl|exact decide_eq_decide.2 Iff.rfl)
 ·simp only[rs,cO,cL,tk_k ho 0 rfl,tk_s ho 0 rfl,h6,h0,h5,Yj,Yi,g_un,ne_eq,not_true,Yz];exact fin (by simp[Ps.bG,h6,h5,h0])
theorem EM (t:Lx.Tok)(w:World)(h0:t.k≠0):Ret prog 205 #[tokV t] w (fun v w'=>v=.bool (Ps.bG t)∧Below w.heap.size w w'):=by
 refine aO fun K hK=>EF ?_;unfold Cx iN dx gfx;refine La t (Own.start w) fun b w1 ho=>?_;have fin:∀{q:Bool},q=Ps.bG t→K (.returned (.bool q)) w1:=fun e=>hK _ _ ⟨by rw[e],ho.done⟩;by_cases h6:t.k=6
 ·by_cases h1:t.s=[91]
  ·simp only[rs,cO,cL,tk_k ho 0 rfl,tk_s ho 0 rfl,h6,h1,Yj,g_un,show ¬(6:Int)=5 by decide,Yi];exact fin (by simp[Ps.bG,h6,h1])
  ·simp only[rs,cO,cL,tk_k ho 0 rfl,tk_s ho 0 rfl,h6,Yl h1,Yj,g_un,show ¬(6:Int)=5 by decide,Yi];exact fin (by simp[Ps.bG,h6,h1])
 by_cases h5:t.k=5
 ·by_cases h1:t.s=Ps.tru
  ·have h1':t.s=[116,114,117,101]:=h1;simp only[rs,cO,cL,tk_k ho 0 rfl,tk_s ho 0 rfl,h5,h1',Yj,Yi,g_un];exact fin (by simp[Ps.bG,h5,h1])
  have h1':¬t.s=[116,114,117,101]:=h1;by_cases h2:t.s=Ps.fal
  ·have h2':t.s=[102,97,108,115,101]:=h2;simp only[rs,cO,cL,tk_k ho 0 rfl,tk_s ho 0 rfl,h5,h2',Yj,Yi,g_un,show ¬([102,97,108,115,101]:List UInt8)=[116,114,117,101] by decide];exact fin (by simp[Ps.bG,h5,h2])
  have h2':¬t.s=[102,97,108,115,101]:=h2;simp only[rs,cO,cL,tk_k ho 0 rfl,tk_s ho 0 rfl,h5,Yl h1',Yl h2',Yj,Yi,g_un];exact fin (by simp[Ps.bG,h5,h1,h2];first|exact Iff.rfl|exact decide_eq_decide.2 Iff.rfl)
 ·simp only[rs,cO,cL,tk_k ho 0 rfl,tk_s ho 0 rfl,h6,h5,Yj,Yi,g_un];exact fin (by simp[Ps.bG,h6,h5,h0])
theorem Hh (t:Lx.Tok)(k:Int)(s:List UInt8)(w:World):Ret prog 247 #[tokV t,.int .i64 k,.string ⟨s.toArray⟩] w (fun v w'=>v=.bool (decide (t.k=k)&&decide (t.s=s))∧Below w.heap.size w w'):=by
 refine aO fun K hK=>Hr ?_;unfold FP dx gtx etx;refine La t (Own.start w) fun b w1 ho=>?_;by_cases h:t.k=k
 ·simp only[rs,cO,cL,tk_k ho 0 rfl,tk_s ho 0 rfl,Yk h,g_un];exact hK _ _ ⟨by rw[Yk h,Y2],ho.done⟩
 ·simp only[rs,cO,cL,tk_k ho 0 rfl,tk_s ho 0 rfl,Yl h,g_un];exact hK _ _ ⟨by rw[Yl h,Y8],ho.done⟩
theorem Te (s:List UInt8)(t:Lx.Tok)(w:World)(hs:s.length≤1099511627776):Ret prog 102 #[.string ⟨s.toArray⟩,tokV t] w
  (fun v w'=>(∃g e,v=.tuple #[.int .i64 g,.int .i64 e,.bool (Ps.ref s t).isSome]∧∀p,Ps.ref s t=some p→p=(g,e))∧Below w.heap.size w w'):=by
 refine aO fun K hK=>BB ?_;unfold sU iN dx gfx cx;refine La t (Own.start w) fun b w1 ho=>?_;have no:∀{W:World} {L:List Ent} (g e:Int),Own w W L→Ps.ref s t=none→K (.returned (.tuple #[.int .i64 g,.int .i64 e,.bool false])) W:=fun g e ho h=>
  hK _ _ ⟨⟨g,e,by rw[h];rfl,fun p hp=>by rw[h] at hp;cases hp⟩,ho.done⟩
 by_cases h1:t.n < 1∨8191 < t.n
 ·have hr:Ps.ref s t=none:=by rw[Ps.ref,Yh h1]
  by_cases h2:t.n < 1
  ·simp only[rs,oQ,tk_n ho 0 rfl,Yk h2,g_un];exact no 0 0 ho hr
  ·have h3:8191 < t.n:=by omega
   simp only[rs,oQ,tk_n ho 0 rfl,Yl h2,Yk h3,g_un];exact no 0 0 ho hr
 have h2:¬t.n < 1:=by omega
 have h3:¬8191 < t.n:=by omega
 simp only[rs,oQ,Hw,tk_n ho 0 rfl,tk_t ho 0 rfl,Yl h2,Yl h3,g_un];refine HD ho (mK s t.t w1 hs) fun b2 w2 ho=>?_;by_cases h4:(Lx.next s t.t).2≠0∨(Lx.next s t.t).1.k≠1∨(Lx.next s t.t).1.n < 0∨65535 < (Lx.next s t.t).1.n
 ·have hr:Ps.ref s t=none:=by rw[Ps.ref,Yg h1,Yh h4]
  simp only[rs];by_cases q1:(Lx.next s t.t).2=0
  ·by_cases q2:(Lx.next s t.t).1.k=1
   ·by_cases q3:(Lx.next s t.t).1.n < 0
    ·simp only[rs,cO,oQ,tk_k ho 0 rfl,tk_n ho 0 rfl,q1,q2,q3,ne_eq,not_true,Yj,Yi,g_un];exact no 0 0 ho hr
    ·have q4:65535 < (Lx.next s t.t).1.n:=by
      rcases h4 with h|h|h|h
      ·exact absurd q1 h
      ·exact absurd q2 h
      ·exact absurd h q3
      ·exact h
     simp only[rs,cO,oQ,tk_k ho 0 rfl,tk_n ho 0 rfl,q1,q2,q3,q4,ne_eq,not_true,Yj,Yi,g_un];exact no 0 0 ho hr
   ·simp only[rs,cO,oQ,tk_k ho 0 rfl,tk_n ho 0 rfl,q1,q2,ne_eq,not_true,Yz,Yj,Yi,g_un];exact no 0 0 ho hr
  ·simp only[rs,cO,oQ,tk_k ho 0 rfl,tk_n ho 0 rfl,q1,ne_eq,not_true,Yz,Yj,Yi,g_un];exact no 0 0 ho hr
 have q:(Lx.next s t.t).2=0∧(Lx.next s t.t).1.k=1∧¬(Lx.next s t.t).1.n < 0∧¬65535 < (Lx.next s t.t).1.n:=by
  refine⟨?_,?_,?_,?_⟩
  ·exact YA.1 fun h=>h4 (.inl h)
  ·exact YA.1 fun h=>h4 (.inr (.inl h))
  ·exact fun h=>h4 (.inr (.inr (.inl h)))
  ·exact fun h=>h4 (.inr (.inr (.inr h)))
 obtain⟨q1,q2,q3,q4⟩:=q;simp only[rs,cO,Hw,oQ,tk_k ho 0 rfl,tk_n ho 0 rfl,tk_t ho 0 rfl,q1,q2,q3,q4,ne_eq,not_true,Yj,Yi,g_un];refine HD ho (mK s (Lx.next s t.t).1.t w2 hs) fun b3 w3 ho=>?_;have hr:Ps.ref s t=if (Lx.next s (Lx.next s t.t).1.t).2=0∧(Lx.next s (Lx.next s t.t).1.t).1.k=5∧(Lx.next s (Lx.next s t.t).1.t).1.s=[82] then some ((Lx.next s t.t).1.n,(Lx.next s (Lx.next s t.t).1.t).1.t) else none:=by
  rw[Ps.ref,Yg h1,Yg h4]
 generalize Lx.next s (Lx.next s t.t).1.t=x at *
 refine quiet ?_;refine q_do _ (fun _=>bC ft3) (q_at _ (fun _ hb=>XT (ho.grow hb) 1 rfl) (q_do _ (fun _=>bC ft2) (q_at _ (fun _ hb=>Xz (ho.grow hb) 0 rfl) (q_eq ?_))));have yes:x.2=0∧x.1.k=5∧x.1.s=[82]→∀{W:World},Below w3.heap.size w3 W→K (.returned (.tuple #[.int .i64 (Lx.next s t.t).1.n,.int .i64 x.1.t,.bool true])) W:=by
  intro h W hb;rw[Yh h] at hr;exact hK _ _ ⟨⟨_,_,by rw[hr];rfl,fun p hp=>by rw[hr] at hp;cases hp;rfl⟩,(ho.grow hb).done⟩
 have non:¬(x.2=0∧x.1.k=5∧x.1.s=[82])→∀{W:World},Below w3.heap.size w3 W→K (.returned (.tuple #[.int .i64 (Lx.next s t.t).1.n,.int .i64 x.1.t,.bool false])) W:=by
  intro h W hb;rw[Yg h] at hr;exact no _ _ (ho.grow hb) hr
 by_cases e1:x.2=0
 case neg=>
  simp only[Yl e1,gq,P4];refine q_pf ?_;simp only[gq,P4];refine q_pf fun W hb=>non (fun h=>e1 h.1) hb
 simp only[Yk e1,gq,P4];refine q_do _ (fun _=>bC ft0) (q_at _ (fun _ hb=>X2 (ho.grow hb) 0 rfl) (q_eq (q_pt ?_)));by_cases e2:x.1.k=5
 case neg=>
  simp only[Yl e2,gq,P4];exact q_pf fun W hb=>non (fun h=>e2 h.2.1) hb
 simp only[Yk e2,gq,P4];refine q_do _ (fun _=>bC ft4) (q_at _ (fun _ hb=>WR (ho.grow hb) 0 rfl) (SA (q_pt ?_)));intro W hb;by_cases e3:x.1.s=[82]
 ·rw[Yk e3];exact yes ⟨e1,e2,e3⟩ hb
 ·rw[Yl e3];exact non (fun h=>e3 h.2.2) hb
end
section
open Eng Go.RowKit
theorem OwnS.sep {S:Nat→Prop}{w0 w:World}{L:List Ent}(ho:OwnS S w0 w L)(i j:Nat)(hij:i≠j){e f:Ent}(hi:L[i]?=some e)(hj:L[j]?=some f):∀k,e.blk k→¬f.blk k:=by
 obtain⟨hil,rfl⟩:=Yy.1 hi;obtain⟨hjl,rfl⟩:=Yy.1 hj;have hp:=ZX.1 ho.apart;intro k hk hk';rcases YS i j with h|h
 ·exact hp i j hil hjl h k hk hk'
 ·exact hp j i hjl hil (by omega) k hk' hk
section
variable {w:World}{S:Nat→Prop}{w0:World}{L:List Ent}{PK:PKT}{K:VWP}
theorem HA (o:Ob){vk vc:Value}(hk:vk.oneCell'=true)(hc:vc.oneCell'=true)(ho:OwnS S w0 w L)(k:∀b w',OwnS S w0 w' (obE b o vk vc::L)→K (.slice (some ⟨b,0,none⟩) 1 1) w'):DoX prog (aS 23 1 #[(0,obV o vk vc)]) w PK K:=by
 cases vk<;>first|(cases hk;done)|skip
 all_goals cases vc<;>first|(cases hc;done)|exact cI (fun b=>.slice (some ⟨b,0,none⟩) 1 1) (obC o _ _) 25 (fun _=>by kernel_rfl) ho k
theorem Fa (s:List UInt8)(ho:OwnS S w0 w L)(k:∀b w',OwnS S w0 w' (.cells b [.string ⟨s.toArray⟩] 9::L)→K (.slice (some ⟨b,0,none⟩) 1 1) w'):DoX prog (aS 22 1 #[(0,.string ⟨s.toArray⟩)]) w PK K:=
 cI (fun b=>.slice (some ⟨b,0,none⟩) 1 1) [.string ⟨s.toArray⟩] 9 (fun _=>by kernel_rfl) ho k
end
theorem BK (l:List (List UInt8))(i:Nat):(bB l).take (i*1)=bB (l.take i):=by rw[Zk];simp[bB]
theorem BV (l:List (List UInt8))(i:Nat):(bB l).drop (i*1)=bB (l.drop i):=by rw[Zk];simp[bB]
theorem nN (a b:List (List UInt8)):bB (a++b)=bB a++bB b:=by simp[bB]
theorem BN {A:Nat→Prop}{w:World}:∀{os:List Ob} {cs:List Value} (i:Nat),OVs A w cs os→OVs A w (cs.take (i*6)) (os.take i)
|_,_,0,_=>by rw[Z1,Z7,Z7];exact OVs.nil
|[],cs,i+1,h=>by rw[OVs] at h;subst h;rw[List.take_nil,List.take_nil];exact OVs.nil
|o::os,cs,i+1,h=>by
  rw[OVs] at h;obtain⟨a,rest,rfl,hl,h1,h2⟩:=h;have e:(a++rest).take ((i+1)*6)=a++rest.take (i*6):=by
   rw[List.take_append,YO (by omega)]
   congr 2
   omega
  rw[e,Y7,OVs];exact⟨a,_,rfl,hl,h1,BN i h2⟩
theorem BQ {A:Nat→Prop}{w:World}:∀{os:List Ob} {cs:List Value} (i:Nat),OVs A w cs os→OVs A w (cs.drop (i*6)) (os.drop i)
|_,_,0,h=>by rw[Z1,ZV,ZV];exact h
|[],cs,i+1,h=>by rw[OVs] at h;subst h;rw[List.drop_nil,List.drop_nil];exact OVs.nil
|o::os,cs,i+1,h=>by
  rw[OVs] at h;obtain⟨a,rest,rfl,hl,h1,h2⟩:=h;have e:(a++rest).drop ((i+1)*6)=rest.drop (i*6):=by
   rw[ZM,YP (by omega),Y6]
   congr 1
   omega
  rw[e,Zx];exact BQ i h2
theorem Sj (o x:Ob)(v u:Value)(key:List UInt8)(M:Mem)(w:World)(hw:o.wt≤10000000000)(hM:M.has w)(hv:OV M.A M.w v o)(hu:OV M.A M.w u x)(hr:Vl.Rise o.keys)(hlen:o.keys.length=o.kids.length) :
  RetM prog 88 #[v,.string ⟨key.toArray⟩,u] M w (fun r N=>OV N.A N.w r (Vl.put o key x)):=by
 obtain⟨vk,vc,cs,rfl,ha⟩:=hv.open;obtain⟨xk,xc,xcs,rfl,hx⟩:=hu.open;have hww:Ob.wts o.kids≤10000000000:=by cases o;rw[Ob.wt] at hw;simp only[Ob.kids];omega
 have hkt:Pl.tot o.keys≤10000000000:=by cases o;rw[Ob.wt] at hw;simp only[Ob.keys];omega
 have hkl:=Pl.dU o.keys;have hlk:=Ob.wD o.kids;refine cM hM fun K hK=>Iy ?_;unfold Ax dx cx;refine cY o ha.keys.one ha.kids.one (OwnS.memS hM) fun b3 w1 ho=>?_;refine cY x hx.keys.one hx.kids.one ho fun b5 w2 ho=>?_;refine bN ho fun b6 w3 ho=>?_;rw[eC,bV ho 2 rfl];refine c_eq (Hv vk o.keys key w3 (ha.keys.now (ho.hasM 3 rfl)) hr (by omega)) ?_;simp only[ex];rw[eC,bV ho 2 rfl];refine dS (Bz vk _ _ w3 (ha.keys.now (ho.hasM 3 rfl)) lU (by omega)) fun vk1 w4 hnew=>?_;have ho:=ho.join hnew;have ho:OwnS M.A w w4 [.urow 9 1 vk1 o.keys.length (bB o.keys),obE b6 ob0 nilS nilS,obE b5 x xk xc,obE b3 o vk vc,.mem M]:=ho;rw[eC];refine aW 3 ho rfl (by kernel_rfl) (bT (ho.at_ 0 rfl)) (show 0+4 < 6 by omega) fun w5 ho=>?_;have ho:OwnS M.A w w5 [.urow 9 1 vk1 o.keys.length (bB o.keys),obE b6 ob0 nilS nilS,obE b5 x xk xc,obE b3 o vk1 vc,.mem M]:=ho;rw[dR,bJ ho 3 rfl];refine dS (Ft vc _ _ w5 (ha.kids.now (ho.hasM 4 rfl)) (C5 ha.all) (by omega)) fun vc1 w6 hnew=>?_;have ho:=ho.join hnew;have ho:OwnS M.A w w6 [.urow 25 6 vc1 o.kids.length cs,.urow 9 1 vk1 o.keys.length (bB o.keys),obE b6 ob0 nilS nilS,obE b5 x xk xc,obE b3 o vk1 vc,.mem M]:=ho;rw[dR];refine aW 4 ho rfl (by kernel_rfl) (bT (ho.at_ 0 rfl)) (show 0+5 < 6 by omega) fun w7 ho=>?_;have ho:OwnS M.A w w7 [.urow 25 6 vc1 o.kids.length cs,.urow 9 1 vk1 o.keys.length (bB o.keys),obE b6 ob0 nilS nilS,obE b5 x xk xc,obE b3 o vk1 vc1,.mem M]:=ho;have hple:=Vl.DX o.keys key;refine join fun J hJ=>?_;have fin:∀(W:World) (kv cv:Value) (ks:List (List UInt8)) (os:List Ob) (ds:List Value),OwnS M.A w W [.urow 25 6 cv os.length ds,.urow 9 1 kv ks.length (bB ks),obE b6 ob0 nilS nilS,obE b5 x xk xc,obE b3 o kv cv,.mem M] →
   OVs M.A M.w ds os→Vl.put o key x=.mk o.k o.n o.g o.s ks os→J [] W:=by
  intro W kv cv ks os ds ho hall hput;refine hJ _ _ fun _=>?_;unfold Cw dx;have hk1:=bT (ho.at_ 1 rfl);have hc1:=bT (ho.at_ 0 rfl);obtain⟨N,hle,hrow,ho⟩:=OwnS.gP (L:=[.urow 9 1 kv ks.length (bB ks),obE b6 ob0 nilS nilS,obE b5 x xk xc,obE b3 o kv cv,.mem M]) ho 4 rfl;obtain⟨N2,hle2,hrow2,ho⟩:=OwnS.gP (L:=[obE b6 ob0 nilS nilS,obE b5 x xk xc,obE b3 o kv cv,.mem N]) ho 3 rfl;have ho:OwnS M.A w W [obE b6 ob0 nilS nilS,obE b5 x xk xc,obE b3 o kv cv,.mem N2]:=ho;rw[ob_v ho 2 rfl];refine aQ 0 hk1 hc1 ho rfl fun w8 ho=>?_;refine eG (aX (ho.agg 0 rfl dM)) (hK _ _ N2 _ 3 ho rfl (hle.trans hle2) ?_);rw[hput];exact ObAt.ov (o:=.mk o.k o.n o.g o.s ks os) ⟨hrow2,hrow.le hle2,hall.le (hle.trans hle2)⟩
 cases hh:Vl.hit o.keys key with
|true=>
  simp only[i_t];have hi:o.keys[Vl.place o.keys key]?=some key:=YF hh;have hlt:Vl.place o.keys key < o.keys.length:=(Yy.1 hi).1;have hg:o.keys[Vl.place o.keys key]=key:=(Yy.1 hi).2;rw[dR,bJ ho 4 rfl,ob_v ho 3 rfl];obtain⟨g,cap,rfl⟩:=qE (ho.at_ 0 rfl) (by omega);refine aU (oV Yt szOb (by omega) (by omega)) |>.mpr ?_;rw[Yo,Yu];have hcl:cs.length=o.kids.length*6:=ha.kids.1.1;refine BX 0 ho rfl (u:=obV x xk xc) (new:=obC x xk xc) rfl szOb (iI _ hx.keys.one hx.kids.one) (by show _+6≤_;omega) fun w8 ho=>?_;have e1:o.keys.take (Vl.place o.keys key)++key::o.keys.drop (Vl.place o.keys key+1)=o.keys:=by
   conv=>rhs;rw[←Zc (Vl.place o.keys key) o.keys,Zt hlt,hg]
  refine fin w8 vk1 (.slice (some ⟨g,0,none⟩) o.kids.length cap) o.keys (o.kids.take (Vl.place o.keys key)++x::o.kids.drop (Vl.place o.keys key+1)) (cs.take (Vl.place o.keys key*6)++obC x xk xc++cs.drop (Vl.place o.keys key*6+6)) ?_ ?_ ?_
  ·have el:(o.kids.take (Vl.place o.keys key)++x::o.kids.drop (Vl.place o.keys key+1)).length=o.kids.length:=by simp;omega
   rw[el];exact ho
  ·have:=gQ (BN (Vl.place o.keys key) ha.all) (gQ (I2 hu) (BQ (Vl.place o.keys key+1) ha.all));rw[show (Vl.place o.keys key+1)*6=Vl.place o.keys key*6+6 by omega,←YD] at this;exact this
  ·unfold Vl.put;rw[hh];simp only[if_true];rw[e1]
|false=>
  simp only[i_f];rw[eC,bV ho 4 rfl];refine Fa key ho fun nb w8 ho=>?_;refine eB 2 ho rfl (Kg vk1 o.keys.length (bB o.keys) (Vl.place o.keys key) nb [.string ⟨key.toArray⟩] w8 (ho.at_ 2 rfl) (ho.at_ 0 rfl) rfl (fun h=>(OwnS.sep ho 2 0 (by omega) rfl rfl) nb h rfl) lU (by simp[Value.oneCell']) hple (by omega)) ?_;rintro kv e' w9 rfl ho;have ho:OwnS M.A w w9 [.cells nb [.string ⟨key.toArray⟩] 9,.urow 25 6 vc1 o.kids.length cs,.urow 9 1 kv (o.keys.length+1) ((bB o.keys).take (Vl.place o.keys key*1)++[.string ⟨key.toArray⟩]++(bB o.keys).drop (Vl.place o.keys key*1)),obE b6 ob0 nilS nilS,obE b5 x xk xc,obE b3 o vk1 vc1,.mem M]:=ho;rw[BK,BV] at ho;have ho:=ho.tail;rw[eC];refine aW 4 ho rfl (by kernel_rfl) (bT (ho.at_ 1 rfl)) (show 0+4 < 6 by omega) fun w10 ho=>?_;have ho:OwnS M.A w w10 [.urow 25 6 vc1 o.kids.length cs,.urow 9 1 kv (o.keys.length+1) (bB (o.keys.take (Vl.place o.keys key))++[.string ⟨key.toArray⟩]++bB (o.keys.drop (Vl.place o.keys key))),obE b6 ob0 nilS nilS,obE b5 x xk xc,obE b3 o kv vc1,.mem M]:=ho;rw[dR,bJ ho 4 rfl,ob_v ho 3 rfl];refine HA x hx.keys.one hx.kids.one ho fun nb2 w11 ho=>?_;refine eB 1 ho rfl (Kw vc1 o.kids.length cs (Vl.place o.keys key) nb2 (obC x xk xc) w11 (ho.at_ 1 rfl) (ho.at_ 0 rfl) rfl (fun h=>(OwnS.sep ho 1 0 (by omega) rfl rfl) nb2 h rfl) (C5 ha.all) (iI _ hx.keys.one hx.kids.one) (by omega) (by omega)) ?_;rintro cv e' w12 rfl ho;have ho:OwnS M.A w w12 [.cells nb2 (obC x xk xc) 25,.urow 25 6 cv (o.kids.length+1) (cs.take (Vl.place o.keys key*6)++obC x xk xc++cs.drop (Vl.place o.keys key*6)),.urow 9 1 kv (o.keys.length+1) (bB (o.keys.take (Vl.place o.keys key))++[.string ⟨key.toArray⟩]++bB (o.keys.drop (Vl.place o.keys key))),obE b6 ob0 nilS nilS,obE b5 x xk xc,obE b3 o kv vc1,.mem M]:=ho;have ho:=ho.tail;rw[dR];refine aW 4 ho rfl (by kernel_rfl) (bT (ho.at_ 0 rfl)) (show 0+5 < 6 by omega) fun w13 ho=>?_;refine fin w13 kv cv (o.keys.take (Vl.place o.keys key)++key::o.keys.drop (Vl.place o.keys key)) (o.kids.take (Vl.place o.keys key)++x::o.kids.drop (Vl.place o.keys key)) (cs.take (Vl.place o.keys key*6)++obC x xk xc++cs.drop (Vl.place o.keys key*6)) ?_ ?_ ?_
  ·have el:(o.kids.take (Vl.place o.keys key)++x::o.kids.drop (Vl.place o.keys key)).length=o.kids.length+1:=by simp;omega
   have el2:(o.keys.take (Vl.place o.keys key)++key::o.keys.drop (Vl.place o.keys key)).length=o.keys.length+1:=by simp;omega
   have es:bB (o.keys.take (Vl.place o.keys key)++key::o.keys.drop (Vl.place o.keys key))=bB (o.keys.take (Vl.place o.keys key))++[.string ⟨key.toArray⟩]++bB (o.keys.drop (Vl.place o.keys key)):=by
    rw[nN];simp[bB,strV]
   rw[el,el2,es];exact ho
  ·have:=gQ (BN (Vl.place o.keys key) ha.all) (gQ (I2 hu) (BQ (Vl.place o.keys key) ha.all));rw[←YD] at this;exact this
  ·unfold Vl.put;rw[hh];simp
end
section
open Eng Go.RowKit
theorem Sl.upto {w:World}{a:Option Addr}{n cap sz i:Nat}{cs:List Value}(h:Sl w (.slice a n cap) sz n cs)(hi:i≤n):Sl w (.slice (subA a 0 cap sz) i cap) sz i (cs.take (i*sz)):=by
 obtain⟨hl,a',cap',e,h1,h2⟩:=h
 injection e with e1 _ e3
 subst e1;subst e3;refine⟨by rw[YC,hl,YM (YU _ hi)],subA a 0 cap sz,cap,rfl,?_,?_⟩
 ·intro hn;cases a with
 |none=>have:=h1 rfl;omega
 |some p=>unfold subA at hn;split at hn<;>simp at hn
 ·intro p hp;cases a with
 |none=>unfold subA at hp;split at hp<;>simp at hp
 |some q=>
   have hq:q=p:=by
    unfold subA at hp;split at hp
    ·exact ZT hp
    ·have:=ZT hp;rw[←this];simp[Addr.add]
   subst hq;refine⟨fun h=>(h2 q rfl).1 (by omega),fun j u hj=>(h2 q rfl).2 j u ?_⟩;rw[Y9] at hj;split at hj<;>first|exact hj|cases hj
theorem Sl.from {w:World}{a:Option Addr}{n cap sz i:Nat}{cs:List Value}(h:Sl w (.slice a n cap) sz n cs)(hi:i≤n)(hc:n≤cap):Sl w (.slice (subA a i cap sz) (n - i) (cap - i)) sz (n - i) (cs.drop (i*sz)):=by
 obtain⟨hl,a',cap',e,h1,h2⟩:=h
 injection e with e1 _ e3
 subst e1;subst e3;refine⟨by rw[Yv,hl,←aaP],subA a i cap sz,cap - i,rfl,?_,?_⟩
 ·intro hn;cases a with
 |none=>have:=h1 rfl;omega
 |some p=>unfold subA at hn;split at hn<;>simp at hn
 ·intro p hp;cases a with
 |none=>unfold subA at hp;split at hp<;>simp at hp
 |some q=>
   by_cases hci:cap=i
   ·have hn:n - i=0:=by omega
    refine⟨fun h=>by omega,fun j u hj=>?_⟩;have:(cs.drop (i*sz)).length=0:=by rw[Yv,hl,←aaP,hn,Z1]
    have:=(Yy.1 hj).1;omega
   ·unfold subA at hp;rw[Yg hci,Zv] at hp
    injection hp with hp
    have hsz:0 < n - i→q.spot=none:=fun h=>(h2 q rfl).1 (by omega);refine⟨fun h=>?_,fun j u hj=>?_⟩
    ·have hs:=hsz h;rw[←hp];obtain⟨b,off,spot⟩:=q;simp only at hs;subst hs;rw[cS]
    ·rw[Zg] at hj;have hc2:=(h2 q rfl).2 (i*sz+j) u hj;have hjl:=(Yy.1 hj).1;have hs:q.spot=none:=(h2 q rfl).1 (by
      rcases Zd n with h0|h0
      ·rw[hl,h0,Z1] at hjl;omega
      ·exact h0)
     rw[←hp];obtain⟨b,off,spot⟩:=q;simp only at hs;subst hs;rw[cS,Zr];exact hc2
theorem SlA.form {A:Nat→Prop}{w:World}{v:Value}{sz n:Nat}{cs:List Value}(h:SlA A w v sz n cs):∃a cap,v=.slice a n cap∧n≤cap:=by
 obtain⟨⟨_,a,cap,rfl,_⟩,_,h3⟩:=h;exact⟨a,cap,rfl,h3 a n cap rfl⟩
theorem LG (o:Ob)(v:Value)(i:Nat)(M:Mem)(w:World)(hw:o.wt≤10000000000)(hM:M.has w)(hv:OV M.A M.w v o)(hi:i < o.keys.length)(hlen:o.keys.length=o.kids.length) :
  RetM prog 131 #[v,.int .i64 (i:Int)] M w (fun r N=>OV N.A N.w r (.mk o.k o.n o.g o.s (o.keys.take i++o.keys.drop (i+1)) (o.kids.take i++o.kids.drop (i+1)))):=by
 obtain⟨vk,vc,cs,rfl,ha⟩:=hv.open;have hww:Ob.wts o.kids≤10000000000:=by cases o;rw[Ob.wt] at hw;simp only[Ob.kids];omega
 have hkt:Pl.tot o.keys≤10000000000:=by cases o;rw[Ob.wt] at hw;simp only[Ob.keys];omega
 have hkl:=Pl.dU o.keys;have hlk:=Ob.wD o.kids;refine cM hM fun K hK=>Dl ?_;unfold Bp iN dx cx;refine cY o ha.keys.one ha.kids.one (OwnS.memS hM) fun b2 w1 ho=>?_;refine bN ho fun b4 w2 ho=>?_;rw[eC,bV ho 1 rfl];refine dS (Bz vk _ _ w2 (ha.keys.now (ho.hasM 2 rfl)) lU (by omega)) fun vk1 w3 hnew=>?_;have ho:=ho.join hnew;have ho:OwnS M.A w w3 [.urow 9 1 vk1 o.keys.length (bB o.keys),obE b4 ob0 nilS nilS,obE b2 o vk vc,.mem M]:=ho;simp only[rs];rw[aB (by omega) (by omega),show (i:Int)+1=((i+1:Nat):Int) by omega];refine eB 0 ho rfl (JO vk1 o.keys.length (bB o.keys) i w3 (ho.at_ 0 rfl) lU hi (by omega)) ?_;rintro kv e' w4 rfl ho;have ho:OwnS M.A w w4 [.urow 9 1 kv (o.keys.length - 1) ((bB o.keys).take (i*1)++(bB o.keys).drop ((i+1)*1)),obE b4 ob0 nilS nilS,obE b2 o vk vc,.mem M]:=ho;rw[BK,BV] at ho;rw[eC];have hk1:=bT (ho.at_ 0 rfl);refine aW 2 ho rfl (by kernel_rfl) hk1 (show 0+4 < 6 by omega) fun w5 ho=>?_;have ho:OwnS M.A w w5 [.urow 9 1 kv (o.keys.length - 1) (bB (o.keys.take i)++bB (o.keys.drop (i+1))),obE b4 ob0 nilS nilS,obE b2 o kv vc,.mem M]:=ho;rw[dR,bJ ho 2 rfl];refine dS (Ft vc _ _ w5 (ha.kids.now (ho.hasM 3 rfl)) (C5 ha.all) (by omega)) fun vc1 w6 hnew=>?_;have ho:=ho.join hnew;have ho:OwnS M.A w w6 [.urow 25 6 vc1 o.kids.length cs,.urow 9 1 kv (o.keys.length - 1) (bB (o.keys.take i)++bB (o.keys.drop (i+1))),obE b4 ob0 nilS nilS,obE b2 o kv vc,.mem M]:=ho;refine eB 0 ho rfl (Ko vc1 o.kids.length cs i w6 (ho.at_ 0 rfl) (C5 ha.all) (by omega) (by omega)) ?_;rintro cv e' w7 rfl ho;have ho:OwnS M.A w w7 [.urow 25 6 cv (o.kids.length - 1) (cs.take (i*6)++cs.drop ((i+1)*6)),.urow 9 1 kv (o.keys.length - 1) (bB (o.keys.take i)++bB (o.keys.drop (i+1))),obE b4 ob0 nilS nilS,obE b2 o kv vc,.mem M]:=ho;have hc1:=bT (ho.at_ 0 rfl);rw[dR];refine aW 3 ho rfl (by kernel_rfl) hc1 (show 0+5 < 6 by omega) fun w8 ho=>?_;have ho:OwnS M.A w w8 [.urow 25 6 cv (o.kids.length - 1) (cs.take (i*6)++cs.drop ((i+1)*6)),.urow 9 1 kv (o.keys.length - 1) (bB (o.keys.take i)++bB (o.keys.drop (i+1))),obE b4 ob0 nilS nilS,obE b2 o kv cv,.mem M]:=ho;obtain⟨N,hle,hrow,ho⟩:=OwnS.gP (L:=[.urow 9 1 kv (o.keys.length - 1) (bB (o.keys.take i)++bB (o.keys.drop (i+1))),obE b4 ob0 nilS nilS,obE b2 o kv cv,.mem M]) ho 3 rfl;obtain⟨N2,hle2,hrow2,ho⟩:=OwnS.gP (L:=[obE b4 ob0 nilS nilS,obE b2 o kv cv,.mem N]) ho 2 rfl;have ho:OwnS M.A w w8 [obE b4 ob0 nilS nilS,obE b2 o kv cv,.mem N2]:=ho;rw[ob_v ho 1 rfl];refine aQ 0 hk1 hc1 ho rfl fun w9 ho=>?_;refine eG (aX (ho.agg 0 rfl dM)) (hK _ _ N2 _ 2 ho rfl (hle.trans hle2) ?_);have el1:(o.keys.take i++o.keys.drop (i+1)).length=o.keys.length - 1:=by simp;omega
 have el2:(o.kids.take i++o.kids.drop (i+1)).length=o.kids.length - 1:=by simp;omega
 refine ObAt.ov (o:=.mk o.k o.n o.g o.s (o.keys.take i++o.keys.drop (i+1)) (o.kids.take i++o.kids.drop (i+1))) (vk:=kv) (vc:=cv) (cs:=cs.take (i*6)++cs.drop ((i+1)*6)) ⟨?_,?_,?_⟩
 ·show SlA N2.A N2.w kv 1 (o.keys.take i++o.keys.drop (i+1)).length (bB (o.keys.take i++o.keys.drop (i+1)));rw[el1,nN];exact hrow2
 ·show SlA N2.A N2.w cv 6 (o.kids.take i++o.kids.drop (i+1)).length _;rw[el2];exact hrow.le hle2
 ·exact (gQ (BN i ha.all) (BQ (i+1) ha.all)).le (hle.trans hle2)
def Vl.drop (o:Ob)(key:List UInt8):Ob:=if Vl.keyed o=true∧Vl.check 1 o=0 then Vl.bD o key else o
theorem LV (o:Ob)(v:Value)(key:List UInt8)(M:Mem)(w:World)(hw:o.wt≤10000000000)(hM:M.has w)(hv:OV M.A M.w v o) :
  RetM prog 86 #[v,.string ⟨key.toArray⟩] M w (fun r N=>OV N.A N.w r (Vl.drop o key)):=by
 obtain⟨vk,vc,cs,rfl,ha⟩:=hv.open;have hkt:Pl.tot o.keys≤10000000000:=by cases o;rw[Ob.wt] at hw;simp only[Ob.keys];omega
 have hkl:=Pl.dU o.keys;refine cM hM fun K hK=>Hs ?_;unfold AP iN dx gtx ctx cx;refine cY o ha.keys.one ha.kids.one (OwnS.memS hM) fun b2 w1 ho=>?_;refine bN ho fun b4 w2 ho=>?_;refine join fun J hJ=>?_;have fin:∀(W:World) (N:Mem) (p:Ob) (kv cv:Value),OwnS M.A w W [obE b4 ob0 nilS nilS,obE b2 p kv cv,.mem N]→M.le N→OV N.A N.w (obV p kv cv) p→p=Vl.drop o key→p.wt≤10000000000→J [] W:=by
  intro W N p kv cv ho hle hp he hpw;refine hJ _ _ fun _=>?_;unfold CB dx cx;rw[ob_v ho 1 rfl];refine eD ho 2 rfl (H8 p _ N W (by omega) (ho.hasM 2 rfl) hp) fun y N2 w4 hle2 hy ho=>?_;obtain⟨yk,yc,ycs,rfl,hya⟩:=hy.open;refine aQ 0 hya.keys.one hya.kids.one ho rfl fun w5 ho=>?_;exact eG (aX (ho.agg 0 rfl dM)) (hK _ _ N2 _ 2 ho rfl (hle.trans hle2) (he▸hy))
 rw[ob_v ho 1 rfl];refine aP ho (R:=fun v=>v=.bool (Vl.keyed o)) (Ir o ha.keys.one ha.kids.one w2) ?_;rintro _ w3 rfl ho;cases hkd:Vl.keyed o with
|false=>
  simp only[rs,g_un];exact fin w3 M o vk vc ho M.le_refl hv (by unfold Vl.drop;rw[Yg (by simp[hkd])]) hw
|true=>
  simp only[rs];rw[ob_v ho 1 rfl];refine aP ho (R:=fun v=>v=.int .i64 (Vl.check 1 o)) (pU o _ w3 (OV.inw (ho.hasM 2 rfl) hv) (by omega)) ?_;rintro _ w4 rfl ho;simp only[rs];by_cases hc:Vl.check 1 o=0
  ·simp only[hc,Yj,rs];obtain⟨hr,hlen⟩:=Vl.mD hc hkd;rw[eC,bV ho 1 rfl];refine c_eq (Hv vk o.keys key w4 (ha.keys.now (ho.hasM 2 rfl)) hr (by omega)) ?_;simp only[ex];have hdr:=Vl.PA hc hkd key;have hdd:Vl.drop o key=Vl.bD o key:=by unfold Vl.drop;rw[Yh ⟨hkd,hc⟩]
   cases hh:Vl.hit o.keys key with
  |true=>
    simp only[i_t];rw[hh,Yh rfl] at hdr;have hi:o.keys[Vl.place o.keys key]?=some key:=YF hh;have hlt:Vl.place o.keys key < o.keys.length:=(Yy.1 hi).1;rw[ob_v ho 1 rfl];refine eD ho 2 rfl (LG o _ _ M w4 hw (ho.hasM 2 rfl) hv hlt hlen) fun y N w5 hle hy ho=>?_;rw[←hdr] at hy;obtain⟨yk,yc,ycs,rfl,hya⟩:=hy.open;refine aQ 1 hya.keys.one hya.kids.one ho rfl fun w6 ho=>?_;exact fin w6 N _ yk yc ho hle hy hdd.symm (Zb (Vl.Ca o key) hw)
  |false=>
    simp only[i_f];rw[hh] at hdr;exact fin w4 M o vk vc ho M.le_refl hv (by rw[hdd,hdr];rfl) hw
  ·simp only[hc,Yi,rs];exact fin w4 M o vk vc ho M.le_refl hv (by unfold Vl.drop;rw[Yg (by simp[hc])]) hw
theorem SU (o x:Ob)(v u:Value)(key:List UInt8)(M:Mem)(w:World)(hw:o.wt≤10000000000)(hwx:x.wt≤10000000000)(hwk:key.length≤10000000000)(hM:M.has w)(hv:OV M.A M.w v o)(hu:OV M.A M.w u x) :
  RetM prog 48 #[v,.string ⟨key.toArray⟩,u] M w (fun r N=>∃v',r=errV v' (Vl.set o key x).2∧OV N.A N.w v' (Vl.set o key x).1):=by
 obtain⟨vk,vc,cs,rfl,ha⟩:=hv.open;obtain⟨xk,xc,xcs,rfl,hx⟩:=hu.open;refine cM hM fun K hK=>Jc ?_;unfold IC iN dx cx;refine cY o ha.keys.one ha.kids.one (OwnS.memS hM) fun b3 w1 ho=>?_;refine cY x hx.keys.one hx.kids.one ho fun b5 w2 ho=>?_;refine bN ho fun b6 w3 ho=>?_;rw[ob_v ho 2 rfl];refine aP ho (R:=fun v=>v=.bool (Vl.keyed o)) (Ir o ha.keys.one ha.kids.one w3) ?_;rintro _ w4 rfl ho;cases hkd:Vl.keyed o with
|false=>
  simp only[rs,YJ];rw[D3];refine aQ 0 rfl rfl ho rfl fun w5 ho=>?_;refine dQ 0 ho rfl (hK _ _ M _ 3 ho rfl M.le_refl ⟨obV Vl.ob0 nilS nilS,?_,?_⟩)
  ·simp[Vl.set,hkd,errV]
  ·simpa[Vl.set,hkd] using El M
|true=>
  simp only[rs,YE];rw[ob_v ho 2 rfl];refine aP ho (R:=fun v=>v=.int .i64 (Vl.check 1 o)) (pU o _ w4 (OV.inw (ho.hasM 3 rfl) hv) (by omega)) ?_;rintro _ w5 rfl ho;simp only[fM];by_cases hc:Vl.check 1 o=0
  ·simp only[hc,ne_eq,not_true,Yi,i_f];rw[cN,ob_k ho 1 rfl];simp only[rs];by_cases h0:x.k=0
   ·simp only[h0,Yj,i_t];rw[ob_v ho 2 rfl];refine eD ho 3 rfl (LV o _ key M w5 hw (ho.hasM 3 rfl) hv) fun y N w6 hle hy ho=>?_;obtain⟨yk,yc,ycs,rfl,hya⟩:=hy.open;refine aQ 0 hya.keys.one hya.kids.one ho rfl fun w7 ho=>?_;have e:Vl.set o key x=(Vl.drop o key,0):=by simp[Vl.set,hkd,hc,h0,Vl.drop]
    refine dQ 0 ho rfl (hK _ _ N _ 3 ho rfl hle ⟨obV (Vl.drop o key) yk yc,?_,?_⟩)
    ·rw[e];rfl
    ·rw[e];exact hy
   ·simp only[h0,Yi,i_f];rw[ob_v ho 2 rfl,ob_v ho 1 rfl];obtain⟨hr,hlen⟩:=Vl.mD hc hkd;have hpw:=Vl.L8 o key x;refine eD ho 3 rfl (Sj o x _ _ key M w5 hw (ho.hasM 3 rfl) hv hu hr hlen) fun y N w6 hle hy ho=>?_;refine eD ho 3 rfl (H8 _ _ N w6 (by omega) (ho.hasM 3 rfl) hy) fun z N2 w7 hle2 hz ho=>?_;refine eD ho 3 rfl (Ls _ _ N2 w7 (by omega) (ho.hasM 3 rfl) hz) ?_;rintro _ N3 w8 hle3 ⟨t,rfl,ht⟩ ho;obtain⟨tk,tc,tcs,rfl,hta⟩:=ht.open;simp only[errV,ex];refine aQ 0 hta.keys.one hta.kids.one ho rfl fun w9 ho=>?_;have e:Vl.set o key x=Vl.right (Vl.put o key x):=by simp[Vl.set,hkd,hc,h0]
    refine dQ 0 ho rfl (hK _ _ N3 _ 3 ho rfl (hle.trans (hle2.trans hle3)) ⟨obV (Vl.right (Vl.put o key x)).1 tk tc,?_,?_⟩)
    ·rw[e];rfl
    ·rw[e];exact ht
  ·simp only[hc,ne_eq,Yz,Yj,i_t];rw[D3];refine aQ 0 rfl rfl ho rfl fun w6 ho=>?_;refine dQ 0 ho rfl (hK _ _ M _ 3 ho rfl M.le_refl ⟨obV Vl.ob0 nilS nilS,?_,?_⟩)
   ·simp[Vl.set,hkd,hc,errV]
   ·simpa[Vl.set,hkd,hc] using El M
end
section
open Eng Go.RowKit
theorem XH:elB prog 9 1 16=true:=by kernel_rfl
theorem elOb:elB prog 25 6 88=true:=by kernel_rfl
theorem OG:(Tryz.prog.info? 9).map (·.size)=some 1:=by kernel_rfl
section
variable {w:World}{S:Nat→Prop}{w0:World}{L:List Ent}{PK:PKT}{K:VWP}
theorem UQ (ho:OwnS S w0 w L)(k:∀v w',OwnS S w0 w' (.urow 9 1 v 0 []::L)→K v w'):DoX prog (aS 22 0 #[]) w PK K:=
 cI (fun b=>.slice (some ⟨b,0,none⟩) 0 0) [] 9 (fun _=>by kernel_rfl) ho fun b w1 ho=>k _ _ (ho.toU 1 0 0 (by simp) (by omega) (by omega))
theorem V1 (ho:OwnS S w0 w L)(k:∀v w',OwnS S w0 w' (.urow 25 6 v 0 []::L)→K v w'):DoX prog (aS 23 0 #[]) w PK K:=
 cI (fun b=>.slice (some ⟨b,0,none⟩) 0 0) [] 25 (fun _=>by kernel_rfl) ho fun b w1 ho=>k _ _ (ho.toU 6 0 0 (by simp) (by omega) (by omega))
theorem Mp (i:Nat){v v2:Value}{n m:Nat}{xs news:List Value}{cb:Array Bool}(ho:OwnS S w0 w L)(hi:L[i]?=some (.urow 9 1 v n xs))(hs:Sl w v2 1 m news)(h1:∀u∈news,u.oneCell'=true)(hb:n+m≤1000000000000)
  (k:∀v' w',OwnS S w0 w' (L.set i (.urow 9 1 v' (n+m) (xs++news)))→K v' w'):DoX prog (mB .append #[22,22] 22 cb #[v,v2]) w PK K:=
 vA i Yn XH (by decide) ho hi hs h1 (by omega) (by omega) k
theorem LX (i:Nat){v v2:Value}{n m:Nat}{xs news:List Value}{cb:Array Bool}(ho:OwnS S w0 w L)(hi:L[i]?=some (.urow 25 6 v n xs))(hs:Sl w v2 6 m news)(h1:∀u∈news,u.oneCell'=true)(hb:n+m≤1000000000000)
  (k:∀v' w',OwnS S w0 w' (L.set i (.urow 25 6 v' (n+m) (xs++news)))→K v' w'):DoX prog (mB .append #[23,23] 23 cb #[v,v2]) w PK K:=
 vA i Yt elOb (by decide) ho hi hs h1 (by omega) (by omega) k
end
theorem Nj {l:List Value}{i:Nat}(h:∀u∈l,u.oneCell'=true):∀u∈l.drop i,u.oneCell'=true:=fun u hu=>h u (Zi hu)
theorem NZ {l:List Value}{i:Nat}(h:∀u∈l,u.oneCell'=true):∀u∈l.take i,u.oneCell'=true:=fun u hu=>h u (Zm hu)
theorem On (o x:Ob)(v u:Value)(key:List UInt8)(M:Mem)(w:World)(hw:o.wt≤10000000000)(hM:M.has w)(hv:OV M.A M.w v o)(hu:OV M.A M.w u x)(hlen:o.keys.length=o.kids.length) :
  RetM prog 93 #[v,.string ⟨key.toArray⟩,u] M w (fun r N=>OV N.A N.w r (Vl.put o key x)):=by
 obtain⟨vk,vc,cs,rfl,ha⟩:=hv.open;obtain⟨xk,xc,xcs,rfl,hx⟩:=hu.open;have hww:Ob.wts o.kids≤10000000000:=by cases o;rw[Ob.wt] at hw;simp only[Ob.kids];omega
 have hkt:Pl.tot o.keys≤10000000000:=by cases o;rw[Ob.wt] at hw;simp only[Ob.keys];omega
 have hkl:=Pl.dU o.keys;have hlk:=Ob.wD o.kids;have hple:=Vl.DX o.keys key;obtain⟨ak,ck,rfl,hck⟩:=ha.keys.form;obtain⟨ac,cc,rfl,hcc⟩:=ha.kids.form;refine cM hM fun K hK=>AZ ?_;unfold kL iN dx cx;refine cY o ha.keys.one ha.kids.one (OwnS.memS hM) fun b3 w1 ho=>?_;refine cY x hx.keys.one hx.kids.one ho fun b5 w2 ho=>?_;refine bN ho fun b6 w3 ho=>?_;rw[eC,bV ho 2 rfl];refine aP ho (R:=fun v=>v=.tuple #[.int .i64 (Vl.place o.keys key:Nat),.bool (Vl.hit o.keys key)]) (OJ _ o.keys key w3 (ha.keys.now (ho.hasM 3 rfl)) (by omega)) ?_;rintro _ w4 rfl ho;simp only[ex];refine UQ ho fun v1 w5 ho=>?_;rw[eC,bV ho 3 rfl];refine aU (sS Yn OG (by omega) (by omega)) |>.mpr ?_;rw[Yo];refine Mp 0 ho rfl (Sl.upto (ha.keys.now (ho.hasM 4 rfl)) hple) (NZ lU) (by omega) fun v2 w6 ho=>?_;rw[BK,Y6,Yu] at ho;have ho:OwnS M.A w w6 [.urow 9 1 v2 (Vl.place o.keys key) (bB (o.keys.take (Vl.place o.keys key))),obE b6 ob0 nilS nilS,obE b5 x xk xc,obE b3 o (.slice ak o.keys.length ck) (.slice ac o.kids.length cc),.mem M]:=ho;refine V1 ho fun v3 w7 ho=>?_;rw[dR,bJ ho 4 rfl];refine aU (sS Yt szOb (by omega) (by omega)) |>.mpr ?_;rw[Yo];refine LX 0 ho rfl (Sl.upto (ha.kids.now (ho.hasM 5 rfl)) (by omega)) (NZ (C5 ha.all)) (by omega) fun v4 w8 ho=>?_;rw[Y6,Yu] at ho;have ho:OwnS M.A w w8 [.urow 25 6 v4 (Vl.place o.keys key) (cs.take (Vl.place o.keys key*6)),.urow 9 1 v2 (Vl.place o.keys key) (bB (o.keys.take (Vl.place o.keys key))),obE b6 ob0 nilS nilS,obE b5 x xk xc,obE b3 o (.slice ak o.keys.length ck) (.slice ac o.kids.length cc),.mem M]:=ho;refine Fa key ho fun nb w9 ho=>?_;refine Mp 2 ho rfl (ho.sl 0 rfl 1 1 1 rfl) (by simp[Value.oneCell']) (by omega) fun v5 w10 ho=>?_;have ho:=ho.tail;have ho:OwnS M.A w w10 [.urow 25 6 v4 (Vl.place o.keys key) (cs.take (Vl.place o.keys key*6)),.urow 9 1 v5 (Vl.place o.keys key+1) (bB (o.keys.take (Vl.place o.keys key))++[.string ⟨key.toArray⟩]),obE b6 ob0 nilS nilS,obE b5 x xk xc,obE b3 o (.slice ak o.keys.length ck) (.slice ac o.kids.length cc),.mem M]:=ho;rw[ob_v ho 3 rfl];refine HA x hx.keys.one hx.kids.one ho fun nb2 w11 ho=>?_;refine LX 1 ho rfl (ho.sl 0 rfl 6 1 1 rfl) (iI _ hx.keys.one hx.kids.one) (by omega) fun v6 w12 ho=>?_;have ho:=ho.tail;have ho:OwnS M.A w w12 [.urow 25 6 v6 (Vl.place o.keys key+1) (cs.take (Vl.place o.keys key*6)++obC x xk xc),.urow 9 1 v5 (Vl.place o.keys key+1) (bB (o.keys.take (Vl.place o.keys key))++[.string ⟨key.toArray⟩]),obE b6 ob0 nilS nilS,obE b5 x xk xc,obE b3 o (.slice ak o.keys.length ck) (.slice ac o.kids.length cc),.mem M]:=ho;refine join fun J hJ=>?_;have fin:∀j:Nat,j=Vl.place o.keys key+(if Vl.hit o.keys key then 1 else 0)→j≤o.keys.length→J [.int .i64 (j:Int)] w12:=by
  intro j hj hjl;refine hJ _ _ fun _=>?_;simp only[pA,gd,dx];rw[eC,bV ho 4 rfl];refine aU (cR Yn OG (by omega) (by omega)) |>.mpr ?_;rw[Yo];refine Mp 1 ho rfl (Sl.from (ha.keys.now (ho.hasM 5 rfl)) hjl hck) (Nj lU) (by omega) fun v7 w13 ho=>?_;rw[BV] at ho;have ho:OwnS M.A w w13 [.urow 25 6 v6 (Vl.place o.keys key+1) (cs.take (Vl.place o.keys key*6)++obC x xk xc),.urow 9 1 v7 (Vl.place o.keys key+1+(o.keys.length - j)) (bB (o.keys.take (Vl.place o.keys key))++[.string ⟨key.toArray⟩]++bB (o.keys.drop j)),obE b6 ob0 nilS nilS,obE b5 x xk xc,obE b3 o (.slice ak o.keys.length ck) (.slice ac o.kids.length cc),.mem M]:=ho;have hk1:=bT (ho.at_ 1 rfl);rw[eC];refine aW 4 ho rfl (by kernel_rfl) hk1 (show 0+4 < 6 by omega) fun w14 ho=>?_;have ho:OwnS M.A w w14 [.urow 25 6 v6 (Vl.place o.keys key+1) (cs.take (Vl.place o.keys key*6)++obC x xk xc),.urow 9 1 v7 (Vl.place o.keys key+1+(o.keys.length - j)) (bB (o.keys.take (Vl.place o.keys key))++[.string ⟨key.toArray⟩]++bB (o.keys.drop j)),obE b6 ob0 nilS nilS,obE b5 x xk xc,obE b3 o v7 (.slice ac o.kids.length cc),.mem M]:=ho;rw[dR,bJ ho 4 rfl];refine aU (cR Yt szOb (by omega) (by omega)) |>.mpr ?_;rw[Yo];refine LX 0 ho rfl (Sl.from (ha.kids.now (ho.hasM 5 rfl)) (by omega) hcc) (Nj (C5 ha.all)) (by omega) fun v8 w15 ho=>?_;have ho:OwnS M.A w w15 [.urow 25 6 v8 (Vl.place o.keys key+1+(o.kids.length - j)) (cs.take (Vl.place o.keys key*6)++obC x xk xc++cs.drop (j*6)),.urow 9 1 v7 (Vl.place o.keys key+1+(o.keys.length - j)) (bB (o.keys.take (Vl.place o.keys key))++[.string ⟨key.toArray⟩]++bB (o.keys.drop j)),obE b6 ob0 nilS nilS,obE b5 x xk xc,obE b3 o v7 (.slice ac o.kids.length cc),.mem M]:=ho;have hc1:=bT (ho.at_ 0 rfl);rw[dR];refine aW 4 ho rfl (by kernel_rfl) hc1 (show 0+5 < 6 by omega) fun w16 ho=>?_;obtain⟨N,hle,hrow,ho⟩:=OwnS.gP (L:=[.urow 9 1 v7 (Vl.place o.keys key+1+(o.keys.length - j)) (bB (o.keys.take (Vl.place o.keys key))++[.string ⟨key.toArray⟩]++bB (o.keys.drop j)),obE b6 ob0 nilS nilS,obE b5 x xk xc,obE b3 o v7 v8,.mem M]) ho 4 rfl;obtain⟨N2,hle2,hrow2,ho⟩:=OwnS.gP (L:=[obE b6 ob0 nilS nilS,obE b5 x xk xc,obE b3 o v7 v8,.mem N]) ho 3 rfl;have ho:OwnS M.A w w16 [obE b6 ob0 nilS nilS,obE b5 x xk xc,obE b3 o v7 v8,.mem N2]:=ho;rw[ob_v ho 2 rfl];refine aQ 0 hk1 hc1 ho rfl fun w17 ho=>?_;refine eG (aX (ho.agg 0 rfl dM)) (hK _ _ N2 _ 3 ho rfl (hle.trans hle2) ?_);have e:Vl.put o key x=.mk o.k o.n o.g o.s (o.keys.take (Vl.place o.keys key)++key::o.keys.drop j) (o.kids.take (Vl.place o.keys key)++x::o.kids.drop j):=by rw[hj];rfl
  rw[e];have el:(o.kids.take (Vl.place o.keys key)++x::o.kids.drop j).length=Vl.place o.keys key+1+(o.kids.length - j):=by simp;omega
  have el2:(o.keys.take (Vl.place o.keys key)++key::o.keys.drop j).length=Vl.place o.keys key+1+(o.keys.length - j):=by simp;omega
  have es:bB (o.keys.take (Vl.place o.keys key)++key::o.keys.drop j)=bB (o.keys.take (Vl.place o.keys key))++[.string ⟨key.toArray⟩]++bB (o.keys.drop j):=by
   rw[nN];simp[bB,strV]
  refine ObAt.ov (o:=.mk o.k o.n o.g o.s (o.keys.take (Vl.place o.keys key)++key::o.keys.drop j) (o.kids.take (Vl.place o.keys key)++x::o.kids.drop j)) (vk:=v7) (vc:=v8) (cs:=cs.take (Vl.place o.keys key*6)++obC x xk xc++cs.drop (j*6)) ⟨?_,?_,?_⟩
  ·show SlA N2.A N2.w v7 1 (o.keys.take (Vl.place o.keys key)++key::o.keys.drop j).length (bB (o.keys.take (Vl.place o.keys key)++key::o.keys.drop j));rw[el2,es];exact hrow2
  ·show SlA N2.A N2.w v8 6 (o.kids.take (Vl.place o.keys key)++x::o.kids.drop j).length _;rw[el];exact hrow.le hle2
  ·have:=gQ (BN (Vl.place o.keys key) ha.all) (gQ (I2 hu) (BQ j ha.all));rw[←YD] at this;exact this.le (hle.trans hle2)
 cases hh:Vl.hit o.keys key with
|true=>
  have hi:o.keys[Vl.place o.keys key]?=some key:=YF hh;have hlt:Vl.place o.keys key < o.keys.length:=(Yy.1 hi).1;simp only[rs];rw[aB (by omega) (by omega),show (Vl.place o.keys key:Int)+1=((Vl.place o.keys key+1:Nat):Int) by omega];exact fin _ (by rw[hh];rfl) (by omega)
|false=>
  simp only[i_f];exact fin _ (by rw[hh];rfl) hple
theorem Ju (key:List UInt8):∀(ks:List (List UInt8)) (cs:List Ob) (i:Nat) (h1:i < ks.length) (h2:i < cs.length),
  Vl.cB key (ks.take (i+1)) (cs.take (i+1))=if ks[i]=key then Vl.cB key (ks.take i) (cs.take i) else ((Vl.cB key (ks.take i) (cs.take i)).1++[ks[i]],(Vl.cB key (ks.take i) (cs.take i)).2++[cs[i]])
|k::ks,c::cs,0,_,_=>by
  simp only[Y7,Z7,Vl.cB,abO,Y6]
|k::ks,c::cs,i+1,h1,h2=>by
  simp only[Y7,Vl.cB,aaO];have ih:=Ju key ks cs i (by simpa using h1) (by simpa using h2);rw[ih];by_cases hk:k=key
  ·simp only[hk,if_true]
  ·simp only[hk,if_false];split<;>simp
|[],_,_,h1,_=>by simp at h1
|_::_,[],_,_,h2=>by simp at h2
theorem Li (key:List UInt8):∀(ks:List (List UInt8)) (cs:List Ob),(Vl.cB key ks cs).1.length=(Vl.cB key ks cs).2.length∧(Vl.cB key ks cs).1.length≤ks.length
|[],cs=>by simp[Vl.cB]
|k::ks,[]=>by simp[Vl.cB]
|k::ks,c::cs=>by
  have ih:=Li key ks cs;rw[Vl.cB];split
  ·simp;omega
  ·simp;omega
theorem AK (o:Ob)(v:Value)(key:List UInt8)(M:Mem)(w:World)(hw:o.wt≤10000000000)(hM:M.has w)(hv:OV M.A M.w v o)(hlen:o.keys.length=o.kids.length) :
  RetM prog 91 #[v,.string ⟨key.toArray⟩] M w (fun r N=>OV N.A N.w r (Vl.bD o key)):=by
 obtain⟨vk,vc,cs,rfl,ha⟩:=hv.open;have hww:Ob.wts o.kids≤10000000000:=by cases o;rw[Ob.wt] at hw;simp only[Ob.kids];omega
 have hkt:Pl.tot o.keys≤10000000000:=by cases o;rw[Ob.wt] at hw;simp only[Ob.keys];omega
 have hkl:=Pl.dU o.keys;have hlk:=Ob.wD o.kids;refine cM hM fun K hK=>tU ?_;unfold eV iN dx;refine cY o ha.keys.one ha.kids.one (OwnS.memS hM) fun b2 w1 ho=>?_;refine bN ho fun b4 w2 ho=>?_;rw[eC,bV ho 1 rfl,bY Yn (ha.keys.now (ho.hasM 2 rfl))];refine loop (fun vs W=>∃(i:Nat) (kv cv:Value) (ds:List Value),vs=[kv,cv,.int .i64 i]∧i≤o.keys.length∧OVs M.A M.w ds (Vl.cB key (o.keys.take i) (o.kids.take i)).2 ∧
   OwnS M.A w W [.urow 25 6 cv (Vl.cB key (o.keys.take i) (o.kids.take i)).2.length ds,.urow 9 1 kv (Vl.cB key (o.keys.take i) (o.kids.take i)).1.length (bB (Vl.cB key (o.keys.take i) (o.kids.take i)).1),obE b4 ob0 nilS nilS,obE b2 o vk vc,.mem M])
  (fun vs _=>o.keys.length - n2 vs) ⟨0,nilS,nilS,[],rfl,by omega,OVs.nil,(ho.nilU 9 1).nilU 25 6⟩ ?_
 clear ho;rintro vs w3 ⟨i,kv,cv,ds,rfl,hi,hds,ho⟩ _;have hdl:=Li key (o.keys.take i) (o.kids.take i);have htl:(o.keys.take i).length≤o.keys.length:=by rw[YC];omega
 simp only[jQ,gd,rs,dx,gtx,etx];by_cases hlt:(i:Int) < (o.keys.length:Int)
 ·have h1:i < o.keys.length:=by omega
  have h2:i < o.kids.length:=by omega
  simp only[hlt,Yj,i_t];have hstep:=Ju key o.keys o.kids i h1 h2;refine join fun J hJ=>?_;have fin:∀(W:World) (kv cv:Value) (ds:List Value),OVs M.A M.w ds (Vl.cB key (o.keys.take (i+1)) (o.kids.take (i+1))).2 →
    OwnS M.A w W [.urow 25 6 cv (Vl.cB key (o.keys.take (i+1)) (o.kids.take (i+1))).2.length ds,.urow 9 1 kv (Vl.cB key (o.keys.take (i+1)) (o.kids.take (i+1))).1.length (bB (Vl.cB key (o.keys.take (i+1)) (o.kids.take (i+1))).1),obE b4 ob0 nilS nilS,obE b2 o vk vc,.mem M]→J [kv,cv] W:=by
   intro W kv cv ds hds ho;refine hJ _ _ fun _=>?_;simp only[jI,gd,rs,iN,dx];rw[aB (by omega) (by omega)];exact bO ⟨i+1,kv,cv,ds,rfl,by omega,hds,ho⟩ (by simp[n2,RowKit.intOf];omega)
  rw[eC,bV ho 3 rfl];obtain⟨q,hrk⟩:=NJ ha h1;obtain⟨r1,r2⟩:=hrk w3 (ho.hasM 4 rfl);refine aU r1 |>.mpr (aU r2 |>.mpr ?_);simp only[rs];by_cases he:o.keys[i]=key
  ·simp only[he,ne_eq,not_true,Yi,rs,g_un];rw[Yh he] at hstep;exact fin w3 kv cv ds (by rw[hstep];exact hds) (by rw[hstep];exact ho)
  ·have hik:(i:Int) < (o.kids.length:Int):=by omega
   simp only[he,ne_eq,Yz,Yj,rs,dR,bJ ho 3 rfl];rw[bY Yt (ha.kids.now (ho.hasM 4 rfl))];simp only[rs,hik,Yj];rw[Yg he] at hstep;rw[eC,bV ho 3 rfl];refine aU r1 |>.mpr (aU r2 |>.mpr ?_);refine Fa o.keys[i] ho fun nb w4 ho=>?_;refine Mp 2 ho rfl (ho.sl 0 rfl 1 1 1 rfl) (by simp[Value.oneCell']) (by omega) fun kv' w5 ho=>?_;have ho:=ho.tail;have ho:OwnS M.A w w5 [.urow 25 6 cv (Vl.cB key (o.keys.take i) (o.kids.take i)).2.length ds,.urow 9 1 kv' ((Vl.cB key (o.keys.take i) (o.kids.take i)).1.length+1) (bB (Vl.cB key (o.keys.take i) (o.kids.take i)).1++[.string ⟨o.keys[i].toArray⟩]),obE b4 ob0 nilS nilS,obE b2 o vk vc,.mem M]:=ho;rw[bJ ho 3 rfl];obtain⟨x,q2,hx,hrx⟩:=DD ha h2;obtain⟨r3,r4⟩:=hrx w5 (ho.hasM 4 rfl);refine aU r3 |>.mpr (aU r4 |>.mpr ?_);obtain⟨xk,xc,xcs,rfl,hxa⟩:=hx.open;refine HA o.kids[i] hxa.keys.one hxa.kids.one ho fun nb2 w6 ho=>?_;refine LX 1 ho rfl (ho.sl 0 rfl 6 1 1 rfl) (iI _ hxa.keys.one hxa.kids.one) (by omega) fun cv' w7 ho=>?_;have ho:=ho.tail;refine fin w7 kv' cv' (ds++obC o.kids[i] xk xc) ?_ ?_
   ·rw[hstep];exact gQ hds (I2 hx)
   ·have es:bB ((Vl.cB key (o.keys.take i) (o.kids.take i)).1++[o.keys[i]])=bB (Vl.cB key (o.keys.take i) (o.kids.take i)).1++[.string ⟨o.keys[i].toArray⟩]:=by
     rw[nN];simp[bB,strV]
    rw[hstep];simp only[es,Yp,Yr,YG,Yu];exact ho
 ·simp only[hlt,Yi,i_f];have hk1:=bT (ho.at_ 1 rfl);have hc1:=bT (ho.at_ 0 rfl);rw[YO (show o.keys.length≤i by omega),YO (show o.kids.length≤i by omega)] at ho hds;rw[eC];refine aW 3 ho rfl (by kernel_rfl) hk1 (show 0+4 < 6 by omega) fun w4 ho=>?_;rw[dR];refine aW 3 ho rfl (by kernel_rfl) hc1 (show 0+5 < 6 by omega) fun w5 ho=>?_;obtain⟨N,hle,hrow,ho⟩:=OwnS.gP (L:=[.urow 9 1 kv (Vl.cB key o.keys o.kids).1.length (bB (Vl.cB key o.keys o.kids).1),obE b4 ob0 nilS nilS,obE b2 o kv cv,.mem M]) ho 3 rfl;obtain⟨N2,hle2,hrow2,ho⟩:=OwnS.gP (L:=[obE b4 ob0 nilS nilS,obE b2 o kv cv,.mem N]) ho 2 rfl;have ho:OwnS M.A w w5 [obE b4 ob0 nilS nilS,obE b2 o kv cv,.mem N2]:=ho;rw[ob_v ho 1 rfl];refine aQ 0 hk1 hc1 ho rfl fun w6 ho=>?_;refine eG (aX (ho.agg 0 rfl dM)) (hK _ _ N2 _ 2 ho rfl (hle.trans hle2) ?_);exact ObAt.ov (o:=Vl.bD o key) (vk:=kv) (vc:=cv) (cs:=ds) ⟨hrow2,hrow.le hle2,hds.le (hle.trans hle2)⟩
theorem TK (o x:Ob)(v u:Value)(key:List UInt8)(M:Mem)(w:World)(hw:o.wt≤10000000000)(hwx:x.wt≤10000000000)(hwk:key.length≤10000000000)(hM:M.has w)(hv:OV M.A M.w v o)(hu:OV M.A M.w u x) :
  RetM prog 52 #[v,.string ⟨key.toArray⟩,u] M w (fun r N=>∃v',r=errV v' (Vl.set o key x).2∧OV N.A N.w v' (Vl.set o key x).1):=by
 obtain⟨vk,vc,cs,rfl,ha⟩:=hv.open;obtain⟨xk,xc,xcs,rfl,hx⟩:=hu.open;refine cM hM fun K hK=>Bu ?_;unfold tK iN dx gtx cx;refine cY o ha.keys.one ha.kids.one (OwnS.memS hM) fun b3 w1 ho=>?_;refine cY x hx.keys.one hx.kids.one ho fun b5 w2 ho=>?_;refine bN ho fun b6 w3 ho=>?_;rw[cN,ob_k ho 2 rfl];have hcase:(o.k=7)∨(o.k≠7∧o.k=9)∨(o.k≠7∧o.k≠9):=by omega
 rcases hcase with h7|⟨h7,h9⟩|⟨h7,h9⟩
 rotate_left 2
 ·have hkd:Vl.keyed o=false:=by simp[Vl.keyed,h7,h9]
  simp only[rs,h7,h9,ne_eq,Yz,Yj,cN,ob_k ho 2 rfl];rw[D3];refine aQ 0 rfl rfl ho rfl fun w5 ho=>?_;refine dQ 0 ho rfl (hK _ _ M _ 3 ho rfl M.le_refl ⟨obV Vl.ob0 nilS nilS,?_,?_⟩)
  ·simp[Vl.set,hkd,errV]
  ·simpa[Vl.set,hkd] using El M
 ·have hkd:Vl.keyed o=true:=by simp[Vl.keyed,h7]
  simp only[rs,h7,ne_eq,not_true,Yi,g_un]
  revert hkd
  clear h7;intro hkd;rw[ob_v ho 2 rfl];refine aP ho (R:=fun v=>v=.int .i64 (Vl.check 1 o)) (jK o _ w3 (OV.inw (ho.hasM 3 rfl) hv) (by omega)) ?_;rintro _ w5 rfl ho;simp only[fM];by_cases hc:Vl.check 1 o=0
  ·simp only[hc,ne_eq,not_true,Yi,i_f];simp only[cN,ob_k ho 1 rfl,rs];obtain⟨hr,hlen⟩:=Vl.mD hc hkd;by_cases h0:x.k=0
   ·simp only[h0,Yj,i_t];rw[ob_v ho 2 rfl];refine eD ho 3 rfl (AK o _ key M w5 hw (ho.hasM 3 rfl) hv hlen) fun y N w6 hle hy ho=>?_;obtain⟨yk,yc,ycs,rfl,hya⟩:=hy.open;refine aQ 0 hya.keys.one hya.kids.one ho rfl fun w7 ho=>?_;have e:Vl.set o key x=(Vl.bD o key,0):=by simp[Vl.set,hkd,hc,h0]
    refine dQ 0 ho rfl (hK _ _ N _ 3 ho rfl hle ⟨obV (Vl.bD o key) yk yc,?_,?_⟩)
    ·rw[e];rfl
    ·rw[e];exact hy
   ·simp only[h0,Yi,i_f];rw[ob_v ho 2 rfl,ob_v ho 1 rfl];have hpw:=Vl.L8 o key x;refine eD ho 3 rfl (On o x _ _ key M w5 hw (ho.hasM 3 rfl) hv hu hlen) fun y N w6 hle hy ho=>?_;refine eD ho 3 rfl (Jj _ _ N w6 (by omega) (ho.hasM 3 rfl) hy) ?_;rintro _ N3 w8 hle3 ⟨t,rfl,ht⟩ ho;obtain⟨tk,tc,tcs,rfl,hta⟩:=ht.open;simp only[errV,ex];refine aQ 0 hta.keys.one hta.kids.one ho rfl fun w9 ho=>?_;have e:Vl.set o key x=Vl.right (Vl.put o key x):=by simp[Vl.set,hkd,hc,h0]
    refine dQ 0 ho rfl (hK _ _ N3 _ 3 ho rfl (hle.trans hle3) ⟨obV (Vl.right (Vl.put o key x)).1 tk tc,?_,?_⟩)
    ·rw[e];rfl
    ·rw[e];exact ht
  ·simp only[hc,ne_eq,Yz,Yj,i_t];rw[D3];refine aQ 0 rfl rfl ho rfl fun w6 ho=>?_;refine dQ 0 ho rfl (hK _ _ M _ 3 ho rfl M.le_refl ⟨obV Vl.ob0 nilS nilS,?_,?_⟩)
   ·simp[Vl.set,hkd,hc,errV]
   ·simpa[Vl.set,hkd,hc] using El M
 ·have hkd:Vl.keyed o=true:=by simp[Vl.keyed,h9]
  have h97:¬((9:Int)=7):=by omega
  simp only[rs,h9,h97,ne_eq,not_true,Yz,Yj,Yi,cN,ob_k ho 2 rfl,g_un];rw[ob_v ho 2 rfl];refine aP ho (R:=fun v=>v=.int .i64 (Vl.check 1 o)) (jK o _ w3 (OV.inw (ho.hasM 3 rfl) hv) (by omega)) ?_;rintro _ w5 rfl ho;simp only[fM];by_cases hc:Vl.check 1 o=0
  ·simp only[hc,ne_eq,not_true,Yi,i_f];simp only[cN,ob_k ho 1 rfl,rs];obtain⟨hr,hlen⟩:=Vl.mD hc hkd;by_cases h0:x.k=0
   ·simp only[h0,Yj,i_t];rw[ob_v ho 2 rfl];refine eD ho 3 rfl (AK o _ key M w5 hw (ho.hasM 3 rfl) hv hlen) fun y N w6 hle hy ho=>?_;obtain⟨yk,yc,ycs,rfl,hya⟩:=hy.open;refine aQ 0 hya.keys.one hya.kids.one ho rfl fun w7 ho=>?_;have e:Vl.set o key x=(Vl.bD o key,0):=by simp[Vl.set,hkd,hc,h0]
    refine dQ 0 ho rfl (hK _ _ N _ 3 ho rfl hle ⟨obV (Vl.bD o key) yk yc,?_,?_⟩)
    ·rw[e];rfl
    ·rw[e];exact hy
   ·simp only[h0,Yi,i_f];rw[ob_v ho 2 rfl,ob_v ho 1 rfl];have hpw:=Vl.L8 o key x;refine eD ho 3 rfl (On o x _ _ key M w5 hw (ho.hasM 3 rfl) hv hu hlen) fun y N w6 hle hy ho=>?_;refine eD ho 3 rfl (Jj _ _ N w6 (by omega) (ho.hasM 3 rfl) hy) ?_;rintro _ N3 w8 hle3 ⟨t,rfl,ht⟩ ho;obtain⟨tk,tc,tcs,rfl,hta⟩:=ht.open;simp only[errV,ex];refine aQ 0 hta.keys.one hta.kids.one ho rfl fun w9 ho=>?_;have e:Vl.set o key x=Vl.right (Vl.put o key x):=by simp[Vl.set,hkd,hc,h0]
    refine dQ 0 ho rfl (hK _ _ N3 _ 3 ho rfl (hle.trans hle3) ⟨obV (Vl.right (Vl.put o key x)).1 tk tc,?_,?_⟩)
    ·rw[e];rfl
    ·rw[e];exact ht
  ·simp only[hc,ne_eq,Yz,Yj,i_t];rw[D3];refine aQ 0 rfl rfl ho rfl fun w6 ho=>?_;refine dQ 0 ho rfl (hK _ _ M _ 3 ho rfl M.le_refl ⟨obV Vl.ob0 nilS nilS,?_,?_⟩)
   ·simp[Vl.set,hkd,hc,errV]
   ·simpa[Vl.set,hkd,hc] using El M
end
section
namespace Eng
open Go.RowKit
def strK (k:List UInt8):Value:=.string ⟨k.toArray⟩
def WS (w:World)(b:Nat)(al:List (List UInt8×Value)):Prop:=∃es clock,w.heap[b]?=some (.map es clock)∧es.toList.map (fun e=>(e.key,e.val))=al.map fun p=>(strK p.1,p.2)
def rZ (al:List (List UInt8×Value))(k:List UInt8):Option Value:=(al.find? fun p=>decide (p.1=k)).map (·.2)
theorem Ho (k:List UInt8):∀(es:List MapEntry) (al:List (List UInt8×Value)) (i:Nat),es.map (fun e=>(e.key,e.val))=al.map (fun p=>(strK p.1,p.2)) →
  ∃r,Instr.findNow .string (strK k) es i=some r∧r.map (·.2)=rZ al k
|[],[],i,_=>⟨none,rfl,rfl⟩
|e::es,p::al,i,h=>by
  simp only[Y1,abT,ZI] at h;obtain⟨⟨h1,h2⟩,h3⟩:=h;have hs:Instr.sameNow .string (strK k) e.key=some (decide (k=p.1)):=by
   rw[h1];show some ((⟨k.toArray⟩:ByteArray)==⟨p.1.toArray⟩)=_
   congr 1
   show (k.toArray==p.1.toArray)=_;by_cases hk:k=p.1<;>simp[hk]
  by_cases hk:k=p.1
  ·refine⟨some (i,e.val),?_,?_⟩
   ·rw[Instr.findNow,hs];simp[hk]
   ·simp[rZ,hk,h2]
  ·obtain⟨r,hr1,hr2⟩:=Ho k es al (i+1) h3;refine⟨r,?_,?_⟩
   ·rw[Instr.findNow,hs];simp[hk,hr1]
   ·have hk':¬p.1=k:=fun e=>hk e.symm;rw[hr2];simp[rZ,hk']
|[],_::_,_,h=>by simp at h
|_::_,[],_,h=>by simp at h
section
variable {S:Nat→Prop}{P:Program}{w w0:World}{L:List Ent}{PK:PKT}{K:VWP}
theorem BE {k:TypeId}{e:Bool}(hk:P.underlying k=some .string)(x:List UInt8):(Instr.checkKey e 10000 k (strK x)).run P w=.ok () w:=by
 show (Instr.checkKey e (9999+1) k (strK x)).run P w=_;rw[Instr.checkKey];simp[run_underlying hk,strK]
theorem G5 {k:TypeId}(hk:P.underlying k=some .string)(x:List UInt8){es:List MapEntry}{al:List (List UInt8×Value)}(h:es.map (fun e=>(e.key,e.val))=al.map (fun p=>(strK p.1,p.2))) :
  ∃r,(Instr.findKey k (strK x) es).run P w=.ok r w∧r.map (·.2)=rZ al x:=by
 obtain⟨r,h1,h2⟩:=Ho x es al 0 h;refine⟨r,?_,h2⟩;simp[Instr.findKey,run_underlying hk,h1]
theorem NW {T k e:TypeId}{ok:Bool}{b:Nat}{al:List (List UInt8×Value)}{z:Value}(ht:P.underlying T=some (.map k e))(hk:P.underlying k=some .string)(hz:(P.info? e).bind (·.zero)=some z)(h:WS w b al)(x:List UInt8) :
  (OU T (.map (some b)) (strK x) ok).run P w=.ok (.value (if ok then .tuple #[(rZ al x).getD z,.bool (rZ al x).isSome] else (rZ al x).getD z)) w:=by
 obtain⟨es,clock,h1,h2⟩:=h;obtain⟨r,r1,r2⟩:=G5 (P:=P) (w:=w) hk x h2;have hz':(zeroValue e).run P w=.ok z w:=by
  obtain⟨i,hi,hzi⟩:=Option.bind_eq_some_iff.1 hz;simp[zeroValue,typeInfo,hi,hzi]
 refine bW ?_;rw[←r2];cases r with
|none=>simp[Instr.lookup,run_underlying ht,getObj,Sem.run,h1,BE hk x,r1,hz']
|some p=>
  obtain⟨i,v⟩:=p;simp[Instr.lookup,run_underlying ht,getObj,Sem.run,h1,BE hk x,r1]
end
theorem EP {al:List (List UInt8×Value)}{k:List UInt8}:rZ al k=none↔k ∉ al.map (·.1):=by
 unfold rZ;rw[Option.map_eq_none_iff,List.find?_eq_none];exact⟨fun h hm=>by obtain⟨p,hp,rfl⟩:=YN.1 hm;simpa using h p hp,fun h p hp hc=>h (YN.2 ⟨p,hp,by simpa using hc⟩)⟩
end Eng
end
end Go.Proofs.YtkejpieaafeblaaGreatDoor

namespace Go.Proofs.YtkejpieaafeblaaGreatDoor
section
open Go
structure It where
 num:Int
 gen:Int
 obj:Ob
namespace Dk
def it0:It:=⟨0,0,Vl.ob0⟩
def numbers (i:It):Bool:=decide (1≤i.num)&&decide (i.num≤8191)&&decide (0≤i.gen)&&decide (i.gen≤65535)
end Dk
end
end Go.Proofs.YtkejpieaafeblaaGreatDoor

namespace Go.Proofs.YtkejpieaafeblaaGreatDoor
section
open Eng Go.RowKit
def itC (i:It)(vk vc:Value):List Value:=.int .i64 i.num::.int .i64 i.gen::obC i.obj vk vc
def itV (i:It)(vk vc:Value):Value:=.agg (itC i vk vc).toArray
def itE (b:Nat)(i:It)(vk vc:Value):Ent:=.cells b (itC i vk vc) 27
theorem UH {o p:Ob}{vk vc xk xc:Value}(h:obV o vk vc=obV p xk xc):vk=xk∧vc=xc:=by
 have:(obC o vk vc).toArray=(obC p xk xc).toArray:=by injection h
 have:obC o vk vc=obC p xk xc:=by simpa using congrArg Array.toList this
 simp only[obC,abT,and_true] at this;exact⟨this.2.2.2.2.1,this.2.2.2.2.2⟩
theorem OV.slices {A:Nat→Prop}{w:World}{o:Ob}{vk vc:Value}(h:OV A w (obV o vk vc) o):∃cs,ObAt A w o vk vc cs:=by
 obtain⟨xk,xc,cs,e,ha⟩:=h.open;obtain⟨rfl,rfl⟩:=UH e;exact⟨cs,ha⟩
theorem OV.oneK {A:Nat→Prop}{w:World}{o:Ob}{vk vc:Value}(h:OV A w (obV o vk vc) o):vk.oneCell'=true:=by obtain⟨cs,ha⟩:=h.slices;exact ha.keys.one
theorem OV.oneC {A:Nat→Prop}{w:World}{o:Ob}{vk vc:Value}(h:OV A w (obV o vk vc) o):vc.oneCell'=true:=by obtain⟨cs,ha⟩:=h.slices;exact ha.kids.one
theorem VC (i:It){vk vc:Value}(hk:vk.oneCell'=true)(hc:vc.oneCell'=true):∀v∈itC i vk vc,v.oneCell'=true:=by
 intro v hv;simp only[itC,Yq] at hv;rcases hv with rfl|rfl|hv
 ·rfl
 ·rfl
 ·exact iI i.obj hk hc v hv
theorem LH:aggN prog 27=some 8:=by kernel_rfl
theorem szIt:(Tryz.prog.info? 27).map (·.size)=some 8:=by kernel_rfl
theorem SX:fOff prog 27 0=some 0:=by kernel_rfl
theorem Tr:fOff prog 27 1=some 1:=by kernel_rfl
theorem SS:fOff prog 27 2=some 2:=by kernel_rfl
section
variable {w:World}{PK:PKT}{K:VWP}{S:Nat→Prop}{w0:World}{L:List Ent}
theorem EY {b off:Nat}:DoX prog (mFA 27 (.pointer (some ⟨b,off,none⟩)) 0) w PK K=K (.pointer (some ⟨b,off,none⟩)) w:=dJ SX
theorem LQ {b off:Nat}:DoX prog (mFA 27 (.pointer (some ⟨b,off,none⟩)) 1) w PK K=K (.pointer (some ⟨b,off+1,none⟩)) w:=dJ Tr
theorem Cn {b off:Nat}:DoX prog (mFA 27 (.pointer (some ⟨b,off,none⟩)) 2) w PK K=K (.pointer (some ⟨b,off+2,none⟩)) w:=dJ SS
theorem PJ (i:It){vk vc:Value}(hk:vk.oneCell'=true)(hc:vc.oneCell'=true)(ho:OwnS S w0 w L)(k:∀b w',OwnS S w0 w' (itE b i vk vc::L)→K (.pointer (some ⟨b,0,none⟩)) w'):DoX prog (mBox 27 (itV i vk vc)) w PK K:=by
 cases vk<;>first|(cases hk;done)|skip
 all_goals cases vc<;>first|(cases hc;done)|exact cI (fun b=>.pointer (some ⟨b,0,none⟩)) (itC i _ _) 27 (fun _=>by kernel_rfl) ho k
theorem P1 (ho:OwnS S w0 w L)(k:∀b w',OwnS S w0 w' (itE b Dk.it0 nilS nilS::L)→K (.pointer (some ⟨b,0,none⟩)) w'):DoX prog (aM 27) w PK K:=
 cI (fun b=>.pointer (some ⟨b,0,none⟩)) (itC Dk.it0 nilS nilS) 27 (fun _=>by kernel_rfl) ho k
theorem FT (j:Nat){b:Nat}{i i':It}{vk vc vk' vc':Value}(hk:vk'.oneCell'=true)(hc:vc'.oneCell'=true)(ho:OwnS S w0 w L)(hi:L[j]?=some (itE b i vk vc))(k:∀w',OwnS S w0 w' (L.set j (itE b i' vk' vc'))→K undef w') :
  DoX prog (aC 27 (.pointer (some ⟨b,0,none⟩)) (itV i' vk' vc')) w PK K:=HE j ho hi (new:=itC i' vk' vc') szIt (VC i' hk hc) rfl k
theorem vC (ho:OwnS S w0 w L)(j:Nat){b:Nat}{i:It}{vk vc:Value}(hi:L[j]?=some (itE b i vk vc)):DoX prog (aA 3 (.pointer (some ⟨b,0,none⟩))) w PK K=K (.int .i64 i.num) w:=bE kV (ho.cell j hi 0 rfl)
theorem FW (ho:OwnS S w0 w L)(j:Nat){b:Nat}{i:It}{vk vc:Value}(hi:L[j]?=some (itE b i vk vc)):DoX prog (aA 3 (.pointer (some ⟨b,0+1,none⟩))) w PK K=K (.int .i64 i.gen) w:=bE kV (ho.cell j hi 1 rfl)
theorem it_k (ho:OwnS S w0 w L)(j:Nat){b:Nat}{i:It}{vk vc:Value}(hi:L[j]?=some (itE b i vk vc)):DoX prog (aA 3 (.pointer (some ⟨b,0+2,none⟩))) w PK K=K (.int .i64 i.obj.k) w:=bE kV (ho.cell j hi 2 rfl)
theorem Fu (ho:OwnS S w0 w L)(j:Nat){b:Nat}{i:It}{vk vc:Value}(hi:L[j]?=some (itE b i vk vc)):DoX prog (aA 25 (.pointer (some ⟨b,0+2,none⟩))) w PK K=K (obV i.obj vk vc) w:=
 l_at (ho.Wm j hi (0+2) (obC i.obj vk vc) rfl dM)
theorem it_v (ho:OwnS S w0 w L)(j:Nat){b:Nat}{i:It}{vk vc:Value}(hi:L[j]?=some (itE b i vk vc)):DoX prog (aA 27 (.pointer (some ⟨b,0,none⟩))) w PK K=K (itV i vk vc) w:=l_at (ho.agg j hi LH)
theorem QX (j:Nat){b:Nat}{i:It}{o:Ob}{vk vc vk' vc':Value}(hk:vk'.oneCell'=true)(hc:vc'.oneCell'=true)(ho:OwnS S w0 w L)(hi:L[j]?=some (itE b i vk vc))(k:∀w',OwnS S w0 w' (L.set j (itE b ⟨i.num,i.gen,o⟩ vk' vc'))→K undef w') :
  DoX prog (aC 25 (.pointer (some ⟨b,0+2,none⟩)) (obV o vk' vc')) w PK K:=VB j ho hi (new:=obC o vk' vc') szOb (iI o hk hc) (by show 0+2+6≤8;omega) k
theorem Wl:DoX prog (aJ 27 #[]) w PK K=K (itV Dk.it0 nilS nilS) w:=aU (by kernel_rfl)
end
theorem Qx {W:World}{b off:Nat}{i:It}{vk vc:Value}(h:∀j u,(itC i vk vc)[j]?=some u→W.cell? ⟨b,off+j,none⟩=some u):(aA 27 (.pointer (some ⟨b,off,none⟩))).run prog W=.ok (.value (itV i vk vc)) W:=
 dH (AtV.agg LH (cs:=itC i vk vc) rfl h)
end
end Go.Proofs.YtkejpieaafeblaaGreatDoor



namespace Go.Proofs.YtkejpieaafeblaaGreatDoor
section
open Eng Go.RowKit
theorem X3 {P:Program}{C:World→Prop}{K:Value→Prop}{T:TypeId}{k:IntKind}{a b:Int}(h:K (.int k (k.wrap (a - b)))):QDo P C (mBin .sub T (.int k a) (.int k b)) K:=q_do _ (fun _=>T9) h
end
end Go.Proofs.YtkejpieaafeblaaGreatDoor






namespace Go.Proofs.YtkejpieaafeblaaGreatDoor
section
open Eng Go.RowKit
namespace Eng
def Ent.two (e f:Ent):Ent:=⟨fun k=>e.blk k∨f.blk k,fun w=>e.is w∧f.is w∧∀k,e.blk k→¬f.blk k,
 fun h k=>⟨e.keep h.1 fun b hb=>k b (.inl hb),f.keep h.2.1 fun b hb=>k b (.inr hb),h.2.2⟩,fun h k hk=>hk.elim (e.lt h.1 k) (f.lt h.2.1 k)⟩
section
variable {S:Nat→Prop}{w w0:World}{L:List Ent}
theorem OwnS.split {e f:Ent}(ho:OwnS S w0 w (.two e f::L)):OwnS S w0 w (e::f::L):=by
 obtain⟨⟨he,hf,hd⟩,hb⟩:=ho.all (.two e f) (by simp);obtain⟨a1,a2⟩:=YT.1 ho.apart;refine⟨ho.grew,fun x hx=>?_,YT.2 ⟨fun x hx k hk=>?_,YT.2 ⟨fun x hx k hk=>a1 x hx k (.inr hk),a2⟩⟩⟩
 ·rcases Yq.1 hx with rfl|hx
  ·exact⟨he,fun k hk=>hb k (.inl hk)⟩
  rcases Yq.1 hx with rfl|hx
  ·exact⟨hf,fun k hk=>hb k (.inr hk)⟩
  ·exact ho.all x (Za _ hx)
 ·rcases Yq.1 hx with rfl|hx
  ·exact hd k hk
  ·exact a1 x hx k (.inl hk)
end
end Eng
section
variable {P:Program}{S:World→Prop}{K:Value→Prop}
theorem fG {m:Sem Next}(v:Value)(h:∀w,S w→m.run P w=.ok (.value v) w)(k:K v):HDo P S m K:=⟨v,h,k⟩
theorem aZ {m:Sem Next}(v:Value)(h:∀w,m.run P w=.ok (.value v) w)(k:K v):HDo P S m K:=⟨v,fun w _=>h w,k⟩
end
section
variable {w:World}{PK:PKT}{K:VWP}{S:Nat→Prop}{w0:World}{L:List Ent}
end
end
section
namespace Eng
open Go.RowKit
section
variable {S:Nat→Prop}{P:Program}{w w0:World}{L:List Ent}{PK:PKT}{K:VWP}
theorem OwnS.pair {e f:Ent}(ho:OwnS S w0 w (e::f::L)):OwnS S w0 w (.two e f::L):=by
 obtain⟨a1,a2⟩:=YT.1 ho.apart;obtain⟨a3,a4⟩:=YT.1 a2;have h1:=ho.all e (by simp);have h2:=ho.all f (by simp);refine⟨ho.grew,fun x hx=>?_,YT.2 ⟨fun x hx k hk=>?_,a4⟩⟩
 ·rcases Yq.1 hx with rfl|hx
  ·exact⟨⟨h1.1,h2.1,a1 f (by simp)⟩,fun k hk=>hk.elim (h1.2 k) (h2.2 k)⟩
  ·exact ho.all x (by simp[hx])
 ·rcases hk with hk|hk
  ·exact a1 x (by simp[hx]) k hk
  ·exact a3 x hx k hk
structure Lent (P:Program) (f:Nat) (args:Array Value) (e:Ent) (M:Mem) (w:World) (ok:Prop) (e':Ent) (R:Value→Mem→Prop) (c:List PanicEntry):Prop where
 ret:ok→Ret P f args w (fun v w'=>∃N,M.le N∧R v N∧Turn (.two e (.mem M)) (.two e' (.mem N)) w w')
 pan:¬ok→Pan P f args w (fun c' w'=>c'=c∧∃e2,Turn (.two e (.mem M)) (.two e2 (.mem M)) w w')
theorem Turn.split {e f:Ent}{M N:Mem}{w w':World}{L:List Ent}(ho:OwnS S w0 w (e::.mem M::L))(ht:Turn (.two e (.mem M)) (.two f (.mem N)) w w'):OwnS S w0 w' (f::.mem N::L):=
 (ho.pair.turn 0 rfl ht).split
theorem RX {f:Nat}{args:Array Value}{e e':Ent}{M:Mem}{ok:Prop}{R:Value→Mem→Prop}{c:List PanicEntry}(ho:OwnS S w0 w (e::.mem M::L))(h:Lent P f args e M w ok e' R c)
  (kr:∀v N w',ok→M.le N→R v N→OwnS S w0 w' (e'::.mem N::L)→K v w') (kp:∀e2 w',¬ok→OwnS S w0 w' (e2::.mem M::L)→PK c w'):CallX P f args w PK K:=by
 by_cases hk:ok
 ·exact dS (h.ret hk) fun v w' ⟨N,hle,hr,ht⟩=>kr v N w' hk hle hr (Turn.split ho ht)
 ·exact Uc (h.pan hk) fun c' w' ⟨hc,e2,ht⟩=>by subst hc;exact kp e2 w' hk (Turn.split ho ht)
theorem Be {f:Nat}{args:Array Value}{e e':Ent}{M:Mem}{ok:Prop}{R:Value→Mem→Prop}{c:List PanicEntry}
  (h:∀K:Ending→World→Prop,OwnS (Ent.two e (.mem M)).blk w w [e,.mem M] →
   (ok→∀(v:Value) (N:Mem) (w':World) (L:List Ent),OwnS (Ent.two e (.mem M)).blk w w' (e'::.mem N::L)→M.le N→R v N→K (.returned v) w') →
   (¬ok→∀(e2:Ent) (N:Mem) (w':World) (L:List Ent),OwnS (Ent.two e (.mem M)).blk w w' (e2::.mem N::L)→M.le N→K (.panicked c) w')→Calls P f args w K)
  (h0:(Ent.two e (.mem M)).is w):Lent P f args e M w ok e' R c:=by
 have ho:OwnS (Ent.two e (.mem M)).blk w w [e,.mem M]:=(OwnS.lend h0).split;constructor
 ·intro hk;refine aO fun K hK=>h K ho (fun _ v N w' L hw hle hr=>hK _ _ ⟨N,hle,hr,OwnS.back hw.pair⟩) fun hn=>absurd hk hn
 ·intro hn;refine QY fun K hK=>h K ho (fun hk=>absurd hk hn) fun _ e2 N w' L hw hle=>?_;refine hK _ _ ⟨rfl,e2,?_⟩;have hb:=OwnS.back hw.pair;refine⟨hb.grew,?_,fun k hk=>hb.new k (hk.elim .inl fun hm=>.inr (hle.A k hm))⟩;obtain⟨i1,i2,i3⟩:=hb.is;exact⟨i1,Mem.Wu hle i2,fun k hk hm=>i3 k hk (hle.A k hm)⟩
end
end Eng
end
section
open Eng Go.RowKit
theorem Tu {α:Type}{l:List α}{i:Nat}(g:α)(hi:i≤l.length):(l.take i++g::l.drop i).take i=l.take i:=by rw[Zf (by simp;omega)]
theorem TH {α:Type}{l:List α}{i:Nat}(g:α)(hi:i≤l.length):(l.take i++g::l.drop i).drop (i+1)=l.drop i:=by
 rw[show l.take i++g::l.drop i=(l.take i++[g])++l.drop i by simp,List.drop_left' (by simp;omega)]
theorem MA {α:Type}{l:List α}{i:Nat}(g x:α)(hi:i≤l.length):(l.take i++g::l.drop i).take i++x::(l.take i++g::l.drop i).drop (i+1)=l.take i++x::l.drop i:=by rw[Tu g hi,TH g hi]
theorem LM {α:Type}{l:List α}{i:Nat}(g:α)(hi:i+1≤l.length):(l.take (i+1)++g::l.drop (i+1)).take (i+1)++l[i]::(l.take (i+1)++g::l.drop (i+1)).drop (i+1+1)=l.take i++l[i]::l.drop i:=by
 rw[MA g _ hi,YL (by omega),YD,acO,(Zt (show i < l.length by omega)).symm]
theorem RF {α:Type}{l:List α}{i:Nat}(g:α)(hi:i+1≤l.length)(h:i < (l.take (i+1)++g::l.drop (i+1)).length):(l.take (i+1)++g::l.drop (i+1))[i]=l[i]:=by
 rw[List.getElem_append_left (by simp;omega),List.getElem_take]
theorem RJ {A:Nat→Prop}{w:World}{os:List Ob}{cs:List Value}{x:Ob}{vk vc:Value}(h:OVs A w cs os)(hx:OV A w (obV x vk vc) x)(i:Nat):OVs A w (cs.take (i*6)++obC x vk vc++cs.drop (i*6+6)) (os.take i++x::os.drop (i+1)):=by
 have:=gQ (BN i h) (gQ (I2 hx) (BQ (i+1) h));rw[show (i+1)*6=i*6+6 by omega,←YD] at this;exact this
abbrev keyE (v:Value)(ks:List (List UInt8)):Ent:=.urow 9 1 v ks.length (bB ks)
abbrev kidE (v:Value)(n:Nat)(cs:List Value):Ent:=.urow 25 6 v n cs
section
variable {w:World}{S:Nat→Prop}{w0:World}{L:List Ent}{PK PK2:PKT}{K:VWP}
theorem Ox {ks:List (List UInt8)}{k:List UInt8}{i:Nat}(h:i < ks.length):bB (ks.take i++k::ks.drop (i+1))=(bB ks).take (i*1)++[.string ⟨k.toArray⟩]++(bB ks).drop (i*1+1):=by
 rw[show ks.take i++k::ks.drop (i+1)=ks.take i++[k]++ks.drop (i+1) by simp,nN,nN,BK]
 congr 1
 rw[show i*1+1=(i+1)*1 by omega,BV]
theorem WI (i:Nat){g n cap:Nat}{ks:List (List UInt8)}(ho:OwnS S w0 w L)(hi:L[i]?=some (keyE (.slice (some ⟨g,0,none⟩) n cap) ks)){j:Nat}(hj:j < ks.length){k:List UInt8}
  (h:∀w',OwnS S w0 w' (L.set i (keyE (.slice (some ⟨g,0,none⟩) n cap) (ks.take j++k::ks.drop (j+1))))→K undef w') :
  DoX prog (aC 9 (.pointer (some ⟨g,j,none⟩)) (.string ⟨k.toArray⟩)) w PK K:=by
 obtain⟨g',cap',e⟩:=qE (ho.at_ i hi) (by omega);cases e;have:=BX (PK:=PK) (K:=K) (T:=9) i ho hi (off:=j*1) (u:=.string ⟨k.toArray⟩) (new:=[.string ⟨k.toArray⟩]) rfl OG (by simp[Value.oneCell']) (by show j*1+1≤_;omega) fun w' ho=>h w' (by
  have el:(ks.take j++k::ks.drop (j+1)).length=ks.length:=by simp;omega
  rw[keyE,el,Ox hj];exact ho)
 rwa [Zk] at this
theorem Wo (i:Nat){g n cap m:Nat}{cs:List Value}(ho:OwnS S w0 w L)(hi:L[i]?=some (kidE (.slice (some ⟨g,0,none⟩) m cap) n cs)){j:Nat}(hj:j < n){x:Ob}{vk vc:Value}(hk:vk.oneCell'=true)(hc:vc.oneCell'=true)
  (h:∀w',OwnS S w0 w' (L.set i (kidE (.slice (some ⟨g,0,none⟩) m cap) n (cs.take (j*6)++obC x vk vc++cs.drop (j*6+6))))→K undef w') :
  DoX prog (aC 25 (.pointer (some ⟨g,j*6,none⟩)) (obV x vk vc)) w PK K:=by
 obtain⟨g',cap',e⟩:=qE (ho.at_ i hi) (by omega);cases e;exact BX i ho hi (u:=obV x vk vc) (new:=obC x vk vc) rfl szOb (iI _ hk hc) (by show j*6+6≤_;omega) fun w' ho=>h w' ho
theorem Vq (i:Nat){v:Value}{ks:List (List UInt8)}(ho:OwnS S w0 w L)(hi:L[i]?=some (keyE v ks)){j:Nat}(hj:j < ks.length){k:List UInt8}
  (h:∀w',OwnS S w0 w' (L.set i (keyE v (ks.take j++k::ks.drop (j+1))))→K undef w') :
  DoX prog (mIA 22 v (.int .i64 (j:Int))) w PK fun t w=>DoX prog (aC 9 t (.string ⟨k.toArray⟩)) w PK2 K:=by
 obtain⟨g,cap,rfl⟩:=qE (ho.at_ i hi) (by omega);refine aU (oV Yn OG (by omega) (by omega)) |>.mpr ?_;rw[Yo,Yu];refine BX i ho hi (u:=.string ⟨k.toArray⟩) (new:=[.string ⟨k.toArray⟩]) rfl OG (by simp[Value.oneCell']) (by show j*1+1≤_;omega) fun w' ho=>h w' ?_;have el:(ks.take j++k::ks.drop (j+1)).length=ks.length:=by simp;omega
 rw[keyE,el,Ox hj];exact ho
theorem UX (i:Nat){v:Value}{n:Nat}{cs:List Value}(ho:OwnS S w0 w L)(hi:L[i]?=some (kidE v n cs)){j:Nat}(hj:j < n){x:Ob}{vk vc:Value}(hk:vk.oneCell'=true)(hc:vc.oneCell'=true)
  (h:∀w',OwnS S w0 w' (L.set i (kidE v n (cs.take (j*6)++obC x vk vc++cs.drop (j*6+6))))→K undef w') :
  DoX prog (mIA 23 v (.int .i64 (j:Int))) w PK fun t w=>DoX prog (aC 25 t (obV x vk vc)) w PK2 K:=by
 obtain⟨g,cap,rfl⟩:=qE (ho.at_ i hi) (by omega);refine aU (oV Yt szOb (by omega) (by omega)) |>.mpr ?_;rw[Yo,Yu];refine BX i ho hi (u:=obV x vk vc) (new:=obC x vk vc) rfl szOb (iI _ hk hc) (by show j*6+6≤_;omega) fun w' ho=>h w' ho
theorem key_row (i:Nat){v:Value}{ks:List (List UInt8)}(ho:OwnS S w0 w L)(hi:L[i]?=some (keyE v ks)){j:Nat}(hj:j < ks.length):∃g cap,v=.slice (some ⟨g,0,none⟩) ks.length cap ∧
  (∀w,(mIA 22 v (.int .i64 (j:Int))).run prog w=.ok (.value (.pointer (some ⟨g,j,none⟩))) w)∧∀w',(keyE v ks).is w'→(aA 9 (.pointer (some ⟨g,j,none⟩))).run prog w'=.ok (.value (.string ⟨ks[j].toArray⟩)) w':=by
 obtain⟨g,cap,rfl⟩:=qE (ho.at_ i hi) (by omega);refine⟨g,cap,rfl,fun w=>?_,fun w' h=>?_⟩
 ·refine (oV Yn OG (by omega) (by omega)).trans ?_;rw[Yo,Zk,Yu]
 ·obtain⟨b,off,cap',e,hc⟩:=jB (Sl.urow h) (by omega);cases e;exact aL qQ (by have:=hc j _ (cD hj);rwa [Yu] at this)
theorem kid_row (i:Nat){v:Value}{n:Nat}{cs:List Value}{os:List Ob}{A:Nat→Prop}{W:World}(ho:OwnS S w0 w L)(hi:L[i]?=some (kidE v n cs))(hn:os.length=n)(hall:OVs A W cs os){j:Nat}(hj:j < os.length):∃g cap vk vc,v=.slice (some ⟨g,0,none⟩) n cap∧OV A W (obV os[j] vk vc) os[j] ∧
  (∀w,(mIA 23 v (.int .i64 (j:Int))).run prog w=.ok (.value (.pointer (some ⟨g,j*6,none⟩))) w)∧∀w',(kidE v n cs).is w'→(aA 25 (.pointer (some ⟨g,j*6,none⟩))).run prog w'=.ok (.value (obV os[j] vk vc)) w':=by
 obtain⟨g,cap,rfl⟩:=qE (ho.at_ i hi) (by omega);obtain⟨a,hl,hov,hget⟩:=OVs.get os cs j hj hall;obtain⟨vk,vc,xcs,he,hx⟩:=hov.open;refine⟨g,cap,vk,vc,rfl,hx.ov,fun w=>?_,fun w' h=>?_⟩
 ·refine (oV Yt szOb (by omega) (by omega)).trans ?_;rw[Yo,Yu]
 ·obtain⟨b,off,cap',e,hc⟩:=jB (Sl.urow h) (by omega);cases e;rw[←he];refine dH (v:=.agg a.toArray) (AtV.agg dM hl fun m u hm=>?_);have:=hc _ _ (hget m u hm)
  rwa [Yu] at this
end
theorem PY (o x:Ob)(vk vc xk xc:Value)(cs:List Value)(key:List UInt8)(A:Nat→Prop)(W w:World)(hlen:o.keys.length=o.kids.length)(hall:OVs A W cs o.kids)(hx:OV A W (obV x xk xc) x)(hb:o.kids.length≤10000000000)
  (hr:Vl.Rise o.keys) (hn:key ∉ o.keys) (h0:(Ent.two (keyE vk o.keys) (kidE vc o.kids.length cs)).is w) :
  Ret prog 160 #[obV o vk vc,.string ⟨key.toArray⟩,obV x xk xc] w (fun v w'=>∃vk' vc' cs',v=obV (Vl.put o key x) vk' vc'∧OVs A W cs' (Vl.put o key x).kids ∧
   Turn (.two (keyE vk o.keys) (kidE vc o.kids.length cs)) (.two (keyE vk' (Vl.put o key x).keys) (kidE vc' (Vl.put o key x).kids.length cs')) w w'):=by
 obtain⟨_,_,e1,hxa⟩:∃a b,(a,b)=(xk,xc)∧xk.oneCell'=true∧xc.oneCell'=true:=by
  obtain⟨a,b,c,e,h⟩:=hx.open
  injection e with e
  have:=congrArg Array.toList e;simp[obC] at this;exact⟨_,_,rfl,by rw[this.1];exact h.keys.one,by rw[this.2];exact h.kids.one⟩
 refine aO fun K hK=>Bl ?_;unfold kD dx;have ho:OwnS (Ent.two (keyE vk o.keys) (kidE vc o.kids.length cs)).blk w w [keyE vk o.keys,kidE vc o.kids.length cs]:=(OwnS.lend h0).split;generalize hS:(Ent.two (keyE vk o.keys) (kidE vc o.kids.length cs)).blk=S0 at ho;have hvk:=bT (ho.at_ 0 rfl);have hvc:=bT (ho.at_ 1 rfl);refine cY o hvk hvc ho fun b3 w1 ho=>?_;refine cY x hxa.1 hxa.2 ho fun b5 w2 ho=>?_;refine bN ho fun b6 w3 ho=>?_;rw[eC,bV ho 2 rfl,bY Yn (ho.slU 3 rfl),eC,bV ho 2 rfl];refine Fa key ho fun nb w4 ho=>?_;refine Mp 4 ho rfl (ho.sl 0 rfl 1 1 1 rfl) (by simp[Value.oneCell']) (by omega) fun vk' w5 ho=>?_;have ho:=ho.tail;have ho:OwnS S0 w w5 [obE b6 ob0 nilS nilS,obE b5 x xk xc,obE b3 o vk vc,.urow 9 1 vk' (o.keys.length+1) (bB o.keys++[.string ⟨key.toArray⟩]),kidE vc o.kids.length cs]:=ho;have hvk':=bT (ho.at_ 3 rfl);rw[eC];refine aW 2 ho rfl (by kernel_rfl) hvk' (show 0+4 < 6 by omega) fun w6 ho=>?_;have ho:OwnS S0 w w6 [obE b6 ob0 nilS nilS,obE b5 x xk xc,obE b3 o vk' vc,.urow 9 1 vk' (o.keys.length+1) (bB o.keys++[.string ⟨key.toArray⟩]),kidE vc o.kids.length cs]:=ho;rw[dR,bJ ho 2 rfl,ob_v ho 1 rfl];refine HA x hxa.1 hxa.2 ho fun nb2 w7 ho=>?_;refine LX 5 ho rfl (ho.sl 0 rfl 6 1 1 rfl) (iI _ hxa.1 hxa.2) (by omega) fun vc' w8 ho=>?_;have ho:=ho.tail;have ho:OwnS S0 w w8 [obE b6 ob0 nilS nilS,obE b5 x xk xc,obE b3 o vk' vc,.urow 9 1 vk' (o.keys.length+1) (bB o.keys++[.string ⟨key.toArray⟩]),kidE vc' (o.kids.length+1) (cs++obC x xk xc)]:=ho;have hvc':=bT (ho.at_ 4 rfl);rw[dR];refine aW 2 ho rfl (by kernel_rfl) hvc' (show 0+5 < 6 by omega) fun w9 ho=>?_;have ek:bB o.keys++[.string ⟨key.toArray⟩]=bB (o.keys.take o.keys.length++key::o.keys.drop o.keys.length):=by simp[bB,strV]
 have ho:OwnS S0 w w9 [obE b6 ob0 nilS nilS,obE b5 x xk xc,obE b3 o vk' vc',keyE vk' (o.keys.take o.keys.length++key::o.keys.drop o.keys.length),kidE vc' (o.kids.length+1) (cs++obC x xk xc)]:=by
  have el:(o.keys.take o.keys.length++key::o.keys.drop o.keys.length).length=o.keys.length+1:=by simp
  rw[ek] at ho;rw[keyE,el];exact ho
 have hall1:OVs A W (cs++obC x xk xc) (o.kids.take o.keys.length++x::o.kids.drop o.keys.length):=by
  rw[hlen,Ze,YX];exact gQ hall (I2 hx)
 clear h0 hall;refine loop (fun vs w'=>∃(i:Nat) (g:List UInt8) (y:Ob) (cs':List Value),vs=[.int .i64 i]∧i≤o.keys.length∧(∀m (h:m < o.keys.length),i≤m→Vl.less key o.keys[m]=true)∧OVs A W cs' (o.kids.take i++y::o.kids.drop i) ∧
   OwnS S0 w w' [obE b6 ob0 nilS nilS,obE b5 x xk xc,obE b3 o vk' vc',keyE vk' (o.keys.take i++g::o.keys.drop i),kidE vc' (o.kids.length+1) cs']) (fun vs _=>n0 vs)
  ⟨o.keys.length,key,x,_,rfl,Yw _,fun m h hm=>by omega,hall1,ho⟩ ?_
 clear ho hall1;rintro vs w10 ⟨i,g,y,cs',rfl,hi,hgt,hall,ho⟩ _;simp only[oW,gd,iN,dx,gtx,etx];have hkl:(o.keys.take i++g::o.keys.drop i).length=o.keys.length+1:=by simp;omega
 have hcl:(o.kids.take i++y::o.kids.drop i).length=o.kids.length+1:=by simp;omega
 -- the end of the loop
 have stop:(∀m (h:m < o.keys.length),m < i→Vl.less o.keys[m] key=true)→DoX prog (mIA 22 vk' (.int .i64 (i:Int))) w10 (pk K) (fun t61 w=>
 DoX prog (aC 9 t61 (.string ⟨key.toArray⟩)) w (pk K) fun _ w=>
 DoX prog (mFA 25 (.pointer (some ⟨b3,0,none⟩)) 5) w (pk K) fun t62 w=>
 DoX prog (aA 23 t62) w (pk K) fun t63 w=>
 DoX prog (aA 25 (.pointer (some ⟨b5,0,none⟩))) w (pk K) fun t65 w=>
 DoX prog (mIA 23 t63 (.int .i64 (i:Int))) w (pk K) fun t66 w=>
 DoX prog (aC 25 t66 t65) w (pk K) fun _ w=>
 DoX prog (aA 25 (.pointer (some ⟨b3,0,none⟩))) w (pk K) fun t67 w=>
 DoX prog (aC 25 (.pointer (some ⟨b6,0,none⟩)) t67) w (pk K) fun _ w=>
 RetX prog [.cell (.pointer (some ⟨b6,0,none⟩)) 25] w K):=by
  intro hlt;have hp:Vl.place o.keys key=i:=Vl.GD hi hlt fun h=>Vl.Pn (hgt i h (Yw _));have hh:Vl.hit o.keys key=false:=by
   unfold Vl.hit;rw[hp,YK];exact fun h=>hn (Zh h)
  have hput:Vl.put o key x=.mk o.k o.n o.g o.s (o.keys.take i++key::o.keys.drop i) (o.kids.take i++x::o.kids.drop i):=by
   unfold Vl.put;rw[hp,hh];rfl
  refine Vq 3 ho rfl (by omega) fun w11 ho=>?_;rw[MA g _ hi] at ho;have ho:OwnS S0 w w11 [obE b6 ob0 nilS nilS,obE b5 x xk xc,obE b3 o vk' vc',keyE vk' (o.keys.take i++key::o.keys.drop i),kidE vc' (o.kids.length+1) cs']:=ho;rw[dR,bJ ho 2 rfl,ob_v ho 1 rfl];refine UX 4 ho rfl (by omega) hxa.1 hxa.2 fun w12 ho=>?_;have hset:=RJ hall hx i;rw[MA y _ (by omega)] at hset;have ho:OwnS S0 w w12 [obE b6 ob0 nilS nilS,obE b5 x xk xc,obE b3 o vk' vc',keyE vk' (o.keys.take i++key::o.keys.drop i),kidE vc' (o.kids.length+1) (cs'.take (i*6)++obC x xk xc++cs'.drop (i*6+6))]:=ho;rw[ob_v ho 2 rfl];refine aQ 0 hvk' hvc' ho rfl fun w13 ho=>?_;refine eG (aX (ho.agg 0 rfl dM)) (hK _ _ ⟨vk',vc',cs'.take (i*6)++obC x xk xc++cs'.drop (i*6+6),by rw[hput];rfl,by rw[hput];exact hset,?_⟩);have ho:=ho.tail.tail.tail;have el:(Vl.put o key x).kids.length=o.kids.length+1:=by rw[hput];show (o.kids.take i++x::o.kids.drop i).length=_;simp;omega
  rw[el,show (Vl.put o key x).keys=o.keys.take i++key::o.keys.drop i by rw[hput];rfl];subst hS;exact OwnS.back ho.pair
 rcases Zd i with h0|h0
 ·subst h0;simp only[rs,show decide ((0:Int) < ((0:Nat):Int))=false by decide,g_un,eC,bV ho 2 rfl];exact stop fun m _ h=>by omega
 obtain⟨j,rfl⟩:∃j,i=j+1:=⟨i - 1,by omega⟩;have hj:(0:Int) < ((j+1:Nat):Int):=by omega
 obtain⟨gk,capk,hvke,ia1,ld1⟩:=key_row 3 ho rfl (j:=j) (by omega);rw[RF g hi] at ld1;have hw1:IntKind.wrap .i64 (((j+1:Nat):Int) - 1)=(j:Int):=by rw[aB (by omega) (by omega)];omega
 have iaX:∀{PK K},DoX prog (mIA 22 vk' (.int .i64 (j:Int))) w10 PK K=K (.pointer (some ⟨gk,j,none⟩)) w10:=aU (ia1 w10);have ldX:∀{PK K},DoX prog (aA 9 (.pointer (some ⟨gk,j,none⟩))) w10 PK K=K (.string ⟨(o.keys[j]'(by omega)).toArray⟩) w10:=aU (ld1 w10 (ho.at_ 3 rfl));simp only[rs,hj,Yj,eC,bV ho 2 rfl,hw1,iaX,ldX,MJ,aaQ];by_cases hl:Op.bytesLess key (o.keys[j]'(by omega))=true
 case neg=>
  simp only[Bool.not_eq_true] at hl;simp only[hl,i_f];refine stop fun m hm hmi=>?_;have hne:o.keys[j]≠key:=fun e=>hn (e▸YH (by omega));have h1:Vl.less o.keys[j] key=true:=Vl.Jo hl fun e=>hne e.symm;rcases YS m j with h|h
  ·exact Vl.jN (Vl.pS hr h (by omega)) h1
  ·have:m=j:=by omega
   subst this;exact h1
 simp only[hl,i_t];refine quiet ?_;refine q_do _ (fun _=>bC RZ) (q_at _ (fun _ hb=>aL Md ((ho.grow hb).cell 2 rfl 4 rfl)) ?_);refine q_do _ (fun _=>bC RZ) (q_at _ (fun _ hb=>aL Md ((ho.grow hb).cell 2 rfl 4 rfl)) ?_);refine q_do (.int .i64 (j:Int)) (fun _=>by rw[T9,hw1]) ?_;refine q_do _ (fun w=>ia1 w) (q_at _ (fun _ hb=>ld1 _ ((ho.grow hb).at_ 3 rfl)) ?_);obtain⟨gk2,capk2,hvke2,ia2,_⟩:=key_row 3 ho rfl (j:=j+1) (by omega);have hg:gk2=gk:=by rw[hvke2] at hvke;injection hvke with h;injection h with h;injection h
 subst hg;refine q_do _ (fun w=>ia2 w) fun w11 hb=>?_;have ho:=ho.grow hb;subst hvke2;refine WI 3 ho rfl (by omega) fun w12 ho=>?_;rw[LM g hi] at ho;have ho:OwnS S0 w w12 [obE b6 ob0 nilS nilS,obE b5 x xk xc,obE b3 o _ vc',keyE _ (o.keys.take j++o.keys[j]::o.keys.drop j),kidE vc' (o.kids.length+1) cs']:=ho;obtain⟨gc,capc,yk,yc,hvce,hy,ia3,ld3⟩:=kid_row 4 ho rfl hcl hall (j:=j) (by omega);obtain⟨gc2,capc2,_,_,hvce2,_,ia4,_⟩:=kid_row 4 ho rfl hcl hall (j:=j+1) (by omega);have hg2:gc2=gc:=by rw[hvce2] at hvce;injection hvce with h;injection h with h;injection h
 subst hg2;have hgk:(o.kids.take (j+1)++y::o.kids.drop (j+1))[j]'(by omega)=o.kids[j]'(by omega):=RF y (by omega) (by omega);rw[hgk] at hy ld3;have hyo:yk.oneCell'=true∧yc.oneCell'=true:=by
  obtain⟨a,b,c,e,h⟩:=hy.open
  injection e with e
  have:=congrArg Array.toList e;simp[obC] at this;exact⟨by rw[this.1];exact h.keys.one,by rw[this.2];exact h.kids.one⟩
 refine quiet ?_;refine q_do _ (fun _=>bC MY) (q_at _ (fun _ hb=>aL PN ((ho.grow hb).cell 2 rfl 5 rfl)) ?_);refine q_do _ (fun _=>bC MY) (q_at _ (fun _ hb=>aL PN ((ho.grow hb).cell 2 rfl 5 rfl)) ?_);refine q_do (.int .i64 (j:Int)) (fun _=>by rw[T9,hw1]) ?_;refine q_do _ (fun w=>ia3 w) (q_at _ (fun _ hb=>ld3 _ ((ho.grow hb).at_ 4 rfl)) ?_);refine q_do _ (fun w=>ia4 w) fun w13 hb=>?_;have ho:=ho.grow hb;subst hvce2;refine Wo 4 ho rfl (by omega) hyo.1 hyo.2 fun w14 ho=>?_;have hset:=RJ hall hy (j+1);rw[LM y (by omega)] at hset;refine bO ⟨j,o.keys[j],o.kids[j],_,rfl,by omega,fun m hm hmi=>?_,hset,ho⟩ (by show Int.toNat (j:Int) < Int.toNat ((j+1:Nat):Int);omega);rcases YS j m with h|h
 ·exact hgt m hm h
 ·have:m=j:=by omega
  subst this;exact hl
end
section
open Eng Go.RowKit
def objR (e:Ps.R)(v:Value)(N:Mem):Prop:=∃u,v=.tuple #[u,.int .i64 e.2.1,.int .i64 e.2.2]∧OV N.A N.w u e.1
def RObj (s:List UInt8)(n:Nat):Prop:=∀(a:Int) (M:Mem) (w:World),M.has w→RetM prog 66 #[.string ⟨s.toArray⟩,.int .i64 a,.int .i64 (25 - (n:Int))] M w (objR (Ps.obj s n a))
theorem eZ {A:Nat→Prop}{w:World}:OV A w (obV Vl.ob0 nilS nilS) Vl.ob0:=ObAt.ov (o:=Vl.ob0) ⟨SlA.nil _ _ _ _,SlA.nil _ _ _ _,OVs.nil⟩
section
variable {w:World}{S:Nat→Prop}{w0:World}{L:List Ent}
theorem oR {KE:Ending→World→Prop}{PK PK2:PKT}(i:Nat){b:Nat}{o:Ob}{vk vc:Value}{e:Int}(ho:OwnS S w0 w L)(hi:L[i]?=some (obE b o vk vc))
  (k:∀w',OwnS S w0 w' (L.set i (obE b Vl.ob0 nilS nilS))→KE (.returned (.tuple #[obV Vl.ob0 nilS nilS,.int .i64 0,.int .i64 e])) w') :
  DoX prog (aJ 25 #[]) w PK fun t w=>DoX prog (aC 25 (.pointer (some ⟨b,0,none⟩)) t) w PK2 fun _ w=>RetX prog [.cell (.pointer (some ⟨b,0,none⟩)) 25,.val (.int .i64 0),.val (.int .i64 e)] w KE:=by
 rw[D3];refine aQ i rfl rfl ho hi fun w' ho=>?_;have hil:i < L.length:=(Yy.1 hi).1;have hi2:(L.set i (obE b Vl.ob0 nilS nilS))[i]?=some (obE b Vl.ob0 nilS nilS):=by simp[hil]
 exact yK (aX (ho.agg i hi2 dM)) eF eF (k w' ho)
end
theorem OL (s:List UInt8)(n:Nat)(hn:n≤23)(hs:s.length≤1000000000)(hsub:RObj s n)(a:Int)(h0:0≤a)(h1:a≤s.length)(M:Mem)(w:World)(hM:M.has w) :
  RetM prog 109 #[.string ⟨s.toArray⟩,.int .i64 a,.int .i64 (24 - (n:Int))] M w (objR (Ps.arr s (decide (n≠0)) (Ps.obj s n) (s.length+1) a [])):=by
 refine cM hM fun K hK=>xF ?_;unfold gI iN dx;have ho:=(OwnS.memS hM).nilU 25 6;refine bN ho fun b6 w1 ho=>?_;have hb6:∀{PK:PKT} {K:VWP},DoX prog (aJ 25 #[(0,(.int .i64 6))]) w1 PK K=K (obV (.mk 6 0 0 [] [] []) nilS nilS) w1:=aU (by kernel_rfl);rw[hb6];refine bN ho fun b9 w2 ho=>?_;refine aQ (o':=.mk 6 0 0 [] [] []) (vk':=nilS) (vc':=nilS) 0 rfl rfl ho rfl fun w3 ho=>?_;have ho:OwnS M.A w w3 [obE b9 (.mk 6 0 0 [] [] []) nilS nilS,obE b6 ob0 nilS nilS,kidE nilS 0 [],.mem M]:=ho;refine loop (fun vs w'=>∃(a':Int) (m:Nat) (acc:List Ob) (cs:List Value) (vc:Value) (N:Mem),vs=[.int .i64 a',.int .i64 0,.int .i64 0]∧0≤a'∧a'≤s.length∧(acc.length:Int)≤a'∧acc.length+m=s.length+1 ∧
   Ps.arr s (decide (n≠0)) (Ps.obj s n) m a' acc=Ps.arr s (decide (n≠0)) (Ps.obj s n) (s.length+1) a []∧M.le N∧OVs N.A N.w cs acc ∧
   OwnS M.A w w' [obE b9 (.mk 6 0 0 [] [] acc) nilS vc,obE b6 ob0 nilS nilS,kidE vc acc.length cs,.mem N]) (fun vs _=>s.length - n0 vs)
  ⟨a,s.length+1,[],[],nilS,M,rfl,h0,h1,by simpa using h0,by simp,rfl,M.le_refl,OVs.nil,ho⟩ ?_
 clear ho;rintro vs w4 ⟨a',m,acc,cs,vc,N,rfl,ha0,ha1,hla,hml,harr,hle,hall,ho⟩ _;simp only[lH,gd,iN,dx,gtx,ctx,etx,cx];obtain⟨m,rfl⟩:∃k,m=k+1:=⟨m - 1,by omega⟩;rw[Ps.arr] at harr;refine HD ho (mK s a' w4 (by omega)) fun b10 w5 ho=>?_;have hvc:=bT (ho.at_ 3 rfl)
 -- an error ends the loop
 have fail:∀{W:World} {L:List Ent} {N':Mem} (i j:Nat) (e:Int) {o:Ob} {vk vc:Value},OwnS M.A w W L→L[i]?=some (obE b6 o vk vc)→L[j]?=some (.mem N')→(∀x,(L.set i x)[j]?=some (.mem N'))→M.le N'→Ps.bad e=Ps.arr s (decide (n≠0)) (Ps.obj s n) (s.length+1) a [] →
   DoX prog (aJ 25 #[]) W (pk K) (fun t W=>DoX prog (aC 25 (.pointer (some ⟨b6,0,none⟩)) t) W (pk K) fun _ W=>RetX prog [.cell (.pointer (some ⟨b6,0,none⟩)) 25,.val (.int .i64 0),.val (.int .i64 e)] W K):=by
  intro W L N' i j e o vk vc ho hi hj hs hle he;refine oR i ho hi fun w' ho=>?_;refine hK _ _ N' _ j ho (hs _) hle ?_;rw[←he];exact⟨_,rfl,eZ⟩
 -- behind the tests of the next token
 have one:∀{W:World} (e':Int),OwnS M.A w W [tokE b10 (Lx.next s a').1,obE b9 (.mk 6 0 0 [] [] acc) nilS vc,obE b6 ob0 nilS nilS,kidE vc acc.length cs,.mem N]→(e'≠0→Ps.bad e'=Ps.arr s (decide (n≠0)) (Ps.obj s n) (s.length+1) a []) →
   (e'=0→(if (Ps.obj s n a').2.2≠0 then Ps.bad (Ps.obj s n a').2.2 else Ps.arr s (decide (n≠0)) (Ps.obj s n) m (Ps.obj s n a').2.1 (acc++[(Ps.obj s n a').1]))=Ps.arr s (decide (n≠0)) (Ps.obj s n) (s.length+1) a []) →
   dL (.string ⟨s.toArray⟩) (.int .i64 a') (.int .i64 (24 - (n:Int))) (.pointer (some ⟨b6,0,none⟩)) (.int .i64 0) (.int .i64 0) (.pointer (some ⟨b9,0,none⟩)) (.int .i64 e') W
    (MZ (fun vs w'=>∃(a':Int) (m:Nat) (acc:List Ob) (cs:List Value) (vc:Value) (N:Mem),vs=[.int .i64 a',.int .i64 0,.int .i64 0]∧0≤a'∧a'≤s.length∧(acc.length:Int)≤a'∧acc.length+m=s.length+1 ∧
   Ps.arr s (decide (n≠0)) (Ps.obj s n) m a' acc=Ps.arr s (decide (n≠0)) (Ps.obj s n) (s.length+1) a []∧M.le N∧OVs N.A N.w cs acc ∧
   OwnS M.A w w' [obE b9 (.mk 6 0 0 [] [] acc) nilS vc,obE b6 ob0 nilS nilS,kidE vc acc.length cs,.mem N]) (fun vs _=>s.length - n0 vs) [.int .i64 a',.int .i64 0,.int .i64 0] w4) K:=by
  intro W e' ho hbad hgo;unfold dL iN dx cx;by_cases he:e'=0
  case neg=>
   simp only[rs,he,ne_eq,Yz,Yj];exact fail 2 4 e' ho rfl rfl (fun _=>rfl) hle (hbad he)
  subst he;have hgo:=hgo rfl;simp only[rs,ne_eq,not_true,Yi];rw[aB (by omega) (by omega),show (24:Int) - n+1=25 - n by omega];refine eD ho 4 rfl (hsub a' N W (ho.hasM 4 rfl)) ?_;rintro _ N2 w6 hle2 ⟨u,rfl,hu⟩ ho;have hbd:=@Ps.Dv s n a';generalize Ps.obj s n a'=e at *;obtain⟨xk,xc,xcs,rfl,hx⟩:=hu.open;simp only[ex];refine bN ho fun b12 w7 ho=>?_;refine aQ 0 hx.keys.one hx.kids.one ho rfl fun w8 ho=>?_;have ho:OwnS M.A w w8 [obE b12 e.1 xk xc,tokE b10 (Lx.next s a').1,obE b9 (.mk 6 0 0 [] [] acc) nilS vc,obE b6 ob0 nilS nilS,kidE vc acc.length cs,.mem N2]:=ho;simp only[rs];by_cases hz:e.2.2=0
  case neg=>
   simp only[hz,ne_eq,Yz,Yj,i_t];rw[Yh hz] at hgo;exact fail 3 5 _ ho rfl rfl (fun _=>rfl) (hle.trans hle2) hgo
  simp only[hz,ne_eq,not_true,Yi,i_f];rw[Yg (by rw[hz];simp)] at hgo;have hbd:=hbd hz;rw[dR,bJ ho 2 rfl,ob_v ho 0 rfl];refine HA e.1 hx.keys.one hx.kids.one ho fun nb w9 ho=>?_;refine LX 5 ho rfl (ho.sl 0 rfl 6 1 1 rfl) (iI _ hx.keys.one hx.kids.one) (by omega) fun vc' w10 ho=>?_;have ho:=ho.tail.tail.tail;have ho:OwnS M.A w w10 [obE b9 (.mk 6 0 0 [] [] acc) nilS vc,obE b6 ob0 nilS nilS,kidE vc' (acc.length+1) (cs++obC e.1 xk xc),.mem N2]:=ho;have hvc':=bT (ho.at_ 2 rfl);rw[dR];refine aW 0 ho rfl (by kernel_rfl) hvc' (show 0+5 < 6 by omega) fun w11 ho=>?_;refine bO ⟨e.2.1,m,acc++[e.1],cs++obC e.1 xk xc,vc',N2,rfl,by omega,hbd.2,by simp;omega,by simp;omega,hgo,hle.trans hle2,gQ (hall.le hle2) (I2 hx.ov),?_⟩ (by show s.length - Int.toNat e.2.1 < s.length - Int.toNat a';omega);have el:(acc++[e.1]).length=acc.length+1:=by simp
  rw[el];exact ho
 generalize Lx.next s a'=x at *
 have ho:OwnS M.A w w5 [tokE b10 x.1,obE b9 (.mk 6 0 0 [] [] acc) nilS vc,obE b6 ob0 nilS nilS,kidE vc acc.length cs,.mem N]:=ho
 -- what comes if the array does not end
 have on:¬(x.2=0∧x.1.k=6∧x.1.s=[93])→(JoinX (fun J3=>
 DoX prog (mEq .eql 30 (.tmp 36) (.const (.int .i64 0)) (.int .i64 x.2) (.int .i64 0)) w5 (pk K) fun t37 w=>
 GDo t37 true (fun E=>DoX prog (mFA 25 (.pointer (some ⟨b9,0,none⟩)) 5) w (pk K) E) w fun t39 w=>
 GDo t37 true (fun E=>DoX prog (aA 23 t39) w (pk K) E) w fun t40 w=>
 GDo t37 true (fun E=>DoX prog (mB .len #[23] 3 #[false] #[t40]) w (pk K) E) w fun t41 w=>
 GDo t37 true (fun E=>DoX prog (mEq .eql 3 (.tmp 41) (.const (.int .i64 8191)) t41 (.int .i64 8191)) w (pk K) E) w fun t42 w=>
 DoX prog (aF t37 t42 (.bool false)) w (pk K) fun t43 w=>
 GDo t43 true (fun E=>DoX prog (aA 58 (.pointer (some ⟨b10,0,none⟩))) w (pk K) E) w fun t45 w=>
 GDo t43 true (fun E=>CallX prog 101 #[t45] w (pk K) E) w fun t46 w=>
 DoX prog (aF t43 t46 (.bool false)) w (pk K) fun t47 w=>
 GDo t47 true (fun E=>E (.int .i64 (24 - (n:Int))) w) w fun t49 w=>
 GDo t47 true (fun E=>DoX prog (mBin .lss 3 t49 (.int .i64 24)) w (pk K) E) w fun t50 w=>
 DoX prog (aF t47 t50 (.bool false)) w (pk K) fun t51 w=>
 IfX t51 (J3 [(.int .i64 6)] w) (J3 [(.int .i64 x.2)] w)) (fun vs3 W'=>∀_:Sg,dL (.string ⟨s.toArray⟩) (.int .i64 a') (.int .i64 (24 - (n:Int))) (.pointer (some ⟨b6,0,none⟩)) (.int .i64 0) (.int .i64 0) (.pointer (some ⟨b9,0,none⟩)) (vs3.getD 0 undef) W'
    (MZ (fun vs w'=>∃(a':Int) (m:Nat) (acc:List Ob) (cs:List Value) (vc:Value) (N:Mem),vs=[.int .i64 a',.int .i64 0,.int .i64 0]∧0≤a'∧a'≤s.length∧(acc.length:Int)≤a'∧acc.length+m=s.length+1 ∧
   Ps.arr s (decide (n≠0)) (Ps.obj s n) m a' acc=Ps.arr s (decide (n≠0)) (Ps.obj s n) (s.length+1) a []∧M.le N∧OVs N.A N.w cs acc ∧
   OwnS M.A w w' [obE b9 (.mk 6 0 0 [] [] acc) nilS vc,obE b6 ob0 nilS nilS,kidE vc acc.length cs,.mem N]) (fun vs _=>s.length - n0 vs) [.int .i64 a',.int .i64 0,.int .i64 0] w4) K)):=by
  intro hno;rw[Yg hno] at harr;refine join fun J hJ=>?_;have six:∀{W:World},OwnS M.A w W [tokE b10 x.1,obE b9 (.mk 6 0 0 [] [] acc) nilS vc,obE b6 ob0 nilS nilS,kidE vc acc.length cs,.mem N]→(x.2=0∧acc.length=8191∧Ps.bG x.1=true∧decide (n≠0)=true)→J [.int .i64 6] W:=by
   intro W ho h;rw[Yh h] at harr;exact hJ _ _ fun _=>one 6 ho (fun _=>harr) (fun h=>absurd h (by decide))
  have non:∀{W:World},OwnS M.A w W [tokE b10 x.1,obE b9 (.mk 6 0 0 [] [] acc) nilS vc,obE b6 ob0 nilS nilS,kidE vc acc.length cs,.mem N]→¬(x.2=0∧acc.length=8191∧Ps.bG x.1=true∧decide (n≠0)=true)→J [.int .i64 x.2] W:=by
   intro W ho h;rw[Yg h] at harr;refine hJ _ _ fun _=>one x.2 ho (fun h=>?_) (fun h=>?_)
   ·rw[Yh h] at harr;exact harr
   ·rw[Yg (by rw[h];simp)] at harr;exact harr
  simp only[rs];by_cases e1:x.2=0
  case neg=>
   simp only[Yl e1,rs,g_un];exact non ho fun h=>e1 h.1
  simp only[Yk e1,rs,dR,bJ ho 1 rfl,bY Yt (ho.slU 3 rfl)];by_cases e2:(acc.length:Int)=8191
  case neg=>
   simp only[Yl e2,rs,g_un];exact non ho fun h=>e2 (by omega)
  simp only[Yk e2,rs,tk_v ho 0 rfl];refine aP ho (R:=fun v=>v=.bool (Ps.bG x.1)) (EB x.1 w5) ?_;rintro _ w6 rfl ho;cases e3:Ps.bG x.1 with
 |false=>
   simp only[rs,g_un];exact non ho fun h=>by rw[e3] at h;exact absurd h.2.2.1 (by decide)
 |true=>
   simp only[rs];by_cases e4:n=0
   ·have:¬(24:Int) - n < 24:=by omega
    simp only[Yl this,rs];exact non ho fun h=>by simp[e4] at h
   ·have:(24:Int) - n < 24:=by omega
    simp only[Yk this,rs];exact six ho ⟨e1,by omega,e3,Yk e4⟩
 simp only[rs];by_cases e1:x.2=0
 case neg=>
  simp only[Yl e1,rs,g_un];simp only[rs,Yl e1] at on;exact on fun h=>e1 h.1
 by_cases e2:x.1.k=6
 case neg=>
  simp only[Yk e1,rs,cO,tk_k ho 0 rfl,Yl e2,g_un];simp only[rs,Yk e1] at on;exact on fun h=>e2 h.2.1
 by_cases e3:x.1.s=[93]
 case neg=>
  simp only[Yk e1,rs,cO,tk_k ho 0 rfl,Yk e2,cL,tk_s ho 0 rfl,Yl e3,g_un];simp only[rs,Yk e1] at on;exact on fun h=>e3 h.2.2
 simp only[Yk e1,rs,cO,tk_k ho 0 rfl,Yk e2,cL,tk_s ho 0 rfl,Yk e3,g_un];rw[Yh ⟨e1,e2,e3⟩] at harr;have ho:=ho.drew;refine⟨fun W=>(obE b9 (.mk 6 0 0 [] [] acc) nilS vc).is W∧(tokE b10 x.1).is W,⟨ho.at_ 1 rfl,ho.at_ 0 rfl⟩,?_⟩;refine fG (obV (.mk 6 0 0 [] [] acc) nilS vc) (fun W h=>dH (AtV.agg dM (cs:=obC (.mk 6 0 0 [] [] acc) nilS vc) rfl fun j u hj=>by rw[Yu];exact aV (T:=25) h.1 hj)) ?_;refine aZ _ (fun _=>bC ft2) ?_;refine fG (.int .i64 x.1.t) (fun W h=>aL nInt (aV (T:=58) (cs:=tokC x.1) (i:=2) h.2 rfl)) ?_;refine aQ 2 rfl hvc ho rfl fun w6 ho=>⟨⟨ho.at_ 1 rfl,ho.at_ 0 rfl⟩,?_⟩;have ho:OwnS M.A w w6 [tokE b10 x.1,obE b9 (.mk 6 0 0 [] [] acc) nilS vc,obE b6 (.mk 6 0 0 [] [] acc) nilS vc,kidE vc acc.length cs,.mem N]:=ho;have ho:=ho.tail.tail;have ho:=ho.perm (L':=[kidE vc acc.length cs,obE b6 (.mk 6 0 0 [] [] acc) nilS vc,.mem N]) (List.Perm.swap _ _ _);obtain⟨N2,hle2,hrow,ho⟩:=OwnS.gP (L:=[obE b6 (.mk 6 0 0 [] [] acc) nilS vc,.mem N]) ho 1 rfl;refine yK (aX (ho.agg 0 rfl dM)) eF eF (hK _ _ N2 _ 1 ho rfl (hle.trans hle2) ?_);rw[←harr];exact⟨_,rfl,ObAt.ov (o:=.mk 6 0 0 [] [] acc) ⟨SlA.nil _ _ _ _,hrow,hall.le hle2⟩⟩
end
end Go.Proofs.YtkejpieaafeblaaGreatDoor

namespace Go.Proofs.YtkejpieaafeblaaGreatDoor
section
open Go
structure Lx where
 off:Int
 sty:List UInt8
 pre:List UInt8
 first:Int
 deriving DecidableEq
namespace Lb
end Lb
end
end Go.Proofs.YtkejpieaafeblaaGreatDoor










namespace Go.Proofs.YtkejpieaafeblaaGreatDoor
section
open Eng Go.RowKit
def sE (b:Nat):Ent:=.cells b [.string ⟨#[65]⟩,.string ⟨#[66]⟩] 9
section
variable {w W:World}{bL bK d:Nat}{a b:Option Nat}{PK:PKT}{K:VWP}
end
end
end Go.Proofs.YtkejpieaafeblaaGreatDoor


namespace Go.Proofs.YtkejpieaafeblaaGreatDoor
section
open Eng
def lE(t0 t1 t12 t13 w)(N1:JT)(K:KT):=
 dx (mBin .lss 3 t13 t12) w K fun t14 w=>IfX t14 (QuietX w (fun C2=>QDo prog C2 (mIA 22 t0 t13) fun t18=>QDo prog C2 (aA 9 t18) fun t19=>QDo prog C2 (mIA 22 t1 t13) fun t22=>QDo prog C2 (aA 9 t22) fun t23=>QDo prog C2 (mEq .neq 9 (.tmp 19) (.tmp 23) t19 t23) fun t24=>
 ∀w,C2 w →
 IfX t24 (K (.returned (.bool false)) w) (dx (mBin .add 3 t13 (iN 1)) w K fun t25 w=>N1 [t25] w))) (K (.returned (.bool true)) w)
def gM(t0 t1 w)(K:KT):=
 dx (mB .len #[22] 3 #[false] #[t0]) w K fun t7 w=>dx (mB .len #[22] 3 #[false] #[t1]) w K fun t9 w=>dx (mEq .neq 3 (.tmp 7) (.tmp 9) t7 t9) w K fun t10 w=>IfX t10 (K (.returned (.bool false)) w) (dx (mB .len #[22] 3 #[false] #[t0]) w K fun t12 w=>LoopX [(iN 0)] w (fun vs1 w N1=>∀_:Sg,lE t0 t1 t12 (vs1.getD 0 undef) w N1 K))
theorem xE (t0 t1:Value)(w:World)(K:Ending→World→Prop):wpX prog 26 [] [(4,[13])] none (aY Tryz.f55) (topQ prog [.tmp 4] K) (aR [t0,t1]) [] w=gM t0 t1 w K:=by kernel_rfl
theorem xX {t0 t1:Value}{w:World}{K:Ending→World→Prop}(h:gM t0 t1 w K):Calls prog 55 #[t0,t1] w K:=
 aE Tryz.func55 rfl rfl rfl rfl (Eq.mpr (xE t0 t1 w K) h)
end
section
open Eng Go.RowKit
theorem Wf:dX prog 9=true:=by kernel_rfl
theorem P3 (va vb:Value)(la lb:List (List UInt8))(w:World)(ha:Sl w va 1 la.length (bB la))(hb:Sl w vb 1 lb.length (bB lb))(hl:la.length≤1099511627776) :
  Ret prog 55 #[va,vb] w (fun r w'=>r=.bool (decide (la=lb))∧Below w.heap.size w w'):=by
 refine aO fun K hK=>xX ?_;unfold gM iN dx;rw[bY Yn ha,bY Yn hb];simp only[rs];by_cases hlen:(la.length:Int)≠(lb.length:Int)
 ·simp only[Yk hlen,i_t];have hne:la≠lb:=fun e=>hlen (by rw[e]);exact hK _ _ ⟨by rw[Yl hne],(Own.start w).done⟩
 have hle:la.length=lb.length:=by omega
 simp only[Yl hlen,i_f,bY Yn ha];refine loop (fun vs w'=>∃(i:Nat),vs=[.int .i64 i]∧i≤la.length∧la.take i=lb.take i∧Own w w' []) (fun vs _=>la.length - n0 vs) ⟨0,rfl,by omega,by simp,Own.start w⟩ ?_;rintro vs w2 ⟨i,rfl,hi,he,ho⟩ _;simp only[lE,gd,rs,iN,dx];by_cases hlt:(i:Int) < (la.length:Int)
 ·have h1:i < la.length:=by omega
  have h2:i < lb.length:=by omega
  simp only[hlt,Yj,rs];obtain⟨ba,oa,ca,rfl,hca⟩:=jB ha (by omega);obtain⟨bb,ob,cb,rfl,hcb⟩:=jB hb (by omega);refine quiet (q_do _ (fun _=>oV Yn (show _=some 1 by kernel_rfl) (by omega) (by omega)) ?_);refine q_at (.string ⟨(la[i]).toArray⟩) (fun wc hw=>aL Wf ((ho.grow hw).old ?_)) ?_
  ·rw[Yo,Zk];exact hca i _ (cD h1)
  refine q_do _ (fun _=>oV Yn (show _=some 1 by kernel_rfl) (by omega) (by omega)) ?_;refine q_at (.string ⟨(lb[i]).toArray⟩) (fun wc hw=>aL Wf ((ho.grow hw).old ?_)) ?_
  ·rw[Yo,Zk];exact hcb i _ (cD h2)
  refine Ww ?_;intro w3 hw;have ho:=ho.grow hw;by_cases hq:la[i]=lb[i]
  ·simp only[hq,ne_eq,not_true,Yi,i_f,rs];rw[aB (by omega) (by omega)];refine bO ⟨i+1,rfl,by omega,?_,ho⟩ (by simp[n0,RowKit.intOf];omega);rw[YL h1,YL h2,he,hq]
  ·simp only[hq,ne_eq,Yz,Yj,i_t];have hne:la≠lb:=fun e=>hq (by subst e;rfl);exact hK _ _ ⟨by rw[Yl hne],ho.done⟩
 ·simp only[hlt,Yi,rs,g_un];have hab:la=lb:=by
   rw[YO (by omega),YO (by omega)] at he;exact he
  exact hK _ _ ⟨by rw[Yk hab],ho.done⟩
end
section
open Eng
def qS(t0 t1 w)(K:KT):=
 dx (mBox 25 t0) w K fun t2 w=>dx (mBox 25 t1) w K fun t3 w=>dx (mFA 25 t2 0) w K fun t5 w=>dx (aA 3 t5) w K fun t6 w=>dx (mFA 25 t3 0) w K fun t7 w=>dx (aA 3 t7) w K fun t8 w=>dx (mEq .eql 3 (.tmp 6) (.tmp 8) t6 t8) w K fun t9 w=>gtx t9 (mFA 25 t2 1) w K fun t11 w=>gtx t9 (aA 2 t11) w K fun t12 w=>gtx t9 (mFA 25 t3 1) w K fun t13 w=>gtx t9 (aA 2 t13) w K fun t14 w=>gtx t9 (mEq .eql 2 (.tmp 12) (.tmp 14) t12 t14) w K fun t15 w=>dx (aF t9 t15 (.bool false)) w K fun t16 w=>gtx t16 (mFA 25 t2 2) w K fun t18 w=>gtx t16 (aA 3 t18) w K fun t19 w=>gtx t16 (mFA 25 t3 2) w K fun t20 w=>gtx t16 (aA 3 t20) w K fun t21 w=>gtx t16 (mEq .eql 3 (.tmp 19) (.tmp 21) t19 t21) w K fun t22 w=>dx (aF t16 t22 (.bool false)) w K fun t23 w=>gtx t23 (mFA 25 t2 3) w K fun t25 w=>gtx t23 (aA 9 t25) w K fun t26 w=>gtx t23 (mFA 25 t3 3) w K fun t27 w=>gtx t23 (aA 9 t27) w K fun t28 w=>gtx t23 (mEq .eql 9 (.tmp 26) (.tmp 28) t26 t28) w K fun t29 w=>dx (aF t23 t29 (.bool false)) w K fun t30 w=>gtx t30 (mFA 25 t2 4) w K fun t32 w=>gtx t30 (aA 22 t32) w K fun t33 w=>gtx t30 (mFA 25 t3 4) w K fun t34 w=>gtx t30 (aA 22 t34) w K fun t35 w=>ctx t30 55 #[t33,t35] w K fun t36 w=>dx (aF t30 t36 (.bool false)) w K fun t37 w=>gtx t37 (mFA 25 t2 5) w K fun t39 w=>gtx t37 (aA 23 t39) w K fun t40 w=>gtx t37 (mFA 25 t3 5) w K fun t41 w=>gtx t37 (aA 23 t41) w K fun t42 w=>ctx t37 56 #[t40,t42] w K fun t43 w=>dx (aF t37 t43 (.bool false)) w K fun t44 w=>K (.returned t44) w
theorem yT{t0 t1 w K}(h:qS t0 t1 w K):Calls prog 17 #[t0,t1] w K:=cw Tryz.func17 rfl rfl (by kernel_rfl) h
def nW(t0 t1 t12 t13 w)(N1:JT)(K:KT):=
 dx (mBin .lss 3 t13 t12) w K fun t14 w=>IfX t14 (QuietX w (fun C2=>QDo prog C2 (mIA 23 t0 t13) fun t18=>QDo prog C2 (aA 25 t18) fun t19=>QDo prog C2 (mIA 23 t1 t13) fun t22=>QDo prog C2 (aA 25 t22) fun t23=>QCall prog C2 17 #[t19,t23] fun t24=>QDo prog C2 (mUn .not t24) fun t25=>
 ∀w,C2 w →
 IfX t25 (K (.returned (.bool false)) w) (dx (mBin .add 3 t13 (iN 1)) w K fun t26 w=>N1 [t26] w))) (K (.returned (.bool true)) w)
def iG(t0 t1 w)(K:KT):=
 dx (mB .len #[23] 3 #[false] #[t0]) w K fun t7 w=>dx (mB .len #[23] 3 #[false] #[t1]) w K fun t9 w=>dx (mEq .neq 3 (.tmp 7) (.tmp 9) t7 t9) w K fun t10 w=>IfX t10 (K (.returned (.bool false)) w) (dx (mB .len #[23] 3 #[false] #[t0]) w K fun t12 w=>LoopX [(iN 0)] w (fun vs1 w N1=>∀_:Sg,nW t0 t1 t12 (vs1.getD 0 undef) w N1 K))
theorem Ac (t0 t1:Value)(w:World)(K:Ending→World→Prop):wpX prog 27 [] [(4,[13])] none (aY Tryz.f56) (topQ prog [.tmp 4] K) (aR [t0,t1]) [] w=iG t0 t1 w K:=by kernel_rfl
theorem yP {t0 t1:Value}{w:World}{K:Ending→World→Prop}(h:iG t0 t1 w K):Calls prog 56 #[t0,t1] w K:=
 aE Tryz.func56 rfl rfl rfl rfl (Eq.mpr (Ac t0 t1 w K) h)
end
end Go.Proofs.YtkejpieaafeblaaGreatDoor



namespace Go.Proofs.YtkejpieaafeblaaGreatDoor
section
open Eng Go.RowKit
namespace Ob
 mutual
def eqb:Ob→Ob→Bool
|.mk k n g s ks cs,b=>decide (k=b.k)&&decide (n=b.n)&&decide (g=b.g)&&decide (s=b.s)&&decide (ks=b.keys)&&eqbs cs b.kids
def eqbs:List Ob→List Ob→Bool
|[],[]=>true
|a::l,b::m=>eqb a b&&eqbs l m
|[],_::_=>false
|_::_,[]=>false
end
 mutual
theorem Ii:∀a b:Ob,eqb a b=true↔a=b
|.mk k n g s ks cs,.mk k' n' g' s' ks' cs'=>by
  have ih:=KP cs cs';rw[eqb];simp only[Ys,Yx];simp only[Ob.k,Ob.n,Ob.g,Ob.s,Ob.keys,Ob.kids,ih,Ob.mk.injEq,and_assoc]
theorem KP:∀a b:List Ob,eqbs a b=true↔a=b
|[],[]=>by simp[eqbs]
|a::l,b::m=>by
  rw[eqbs,Ys,Ii a b,KP l m];simp
|[],_::_=>by simp[eqbs]
|_::_,[]=>by simp[eqbs]
end
theorem WQ (a b:Ob):eqb a b=(decide (a.k=b.k)&&decide (a.n=b.n)&&decide (a.g=b.g)&&decide (a.s=b.s)&&decide (a.keys=b.keys)&&eqbs a.kids b.kids):=by cases a;rw[eqb];rfl
theorem Qz {a b:List Ob}{i:Nat}(h1:i < a.length)(h2:i < b.length):eqbs (a.drop i) (b.drop i)=(eqb a[i] b[i]&&eqbs (a.drop (i+1)) (b.drop (i+1))):=by
 rw[Zt h1,Zt h2,eqbs]
theorem SF:∀{a b:List Ob},a.length≠b.length→eqbs a b=false:=by
 intro a b h;cases he:eqbs a b with
|false=>rfl
|true=>rw[KP] at he;exact absurd (by rw[he]) h
end Ob
theorem Ry {a b:Ob}{ka va kb vb:Value}{ca cb:List Value}(w:World)(ha:ObAt (InW w) w a ka va ca)(hb:ObAt (InW w) w b kb vb cb)(hl:a.kids.length≤1000000000)
  (ih:∀(i:Nat) (h1:i < a.kids.length) (h2:i < b.kids.length) (x y:Value) (W:World),OV (InW W) W x a.kids[i]→OV (InW W) W y b.kids[i]→Ret prog 17 #[x,y] W (fun v w'=>v=.bool (Ob.eqb a.kids[i] b.kids[i])∧Below W.heap.size W w')) :
  Ret prog 56 #[va,vb] w (fun v w'=>v=.bool (Ob.eqbs a.kids b.kids)∧Below w.heap.size w w'):=by
 refine aO fun K hK=>yP ?_;unfold iG iN dx;rw[bY Yt ha.kids.1,bY Yt hb.kids.1];simp only[rs];by_cases hlen:(a.kids.length:Int)≠(b.kids.length:Int)
 ·simp only[Yk hlen,i_t];exact hK _ _ ⟨by rw[Ob.SF (by omega)],(Own.start w).done⟩
 have hle:a.kids.length=b.kids.length:=by omega
 simp only[Yl hlen,i_f,bY Yt ha.kids.1];refine loop (fun vs w'=>∃(i:Nat),vs=[.int .i64 i]∧i≤a.kids.length∧Ob.eqbs a.kids b.kids=Ob.eqbs (a.kids.drop i) (b.kids.drop i)∧Own w w' []) (fun vs _=>a.kids.length - n0 vs) ⟨0,rfl,by omega,by simp,Own.start w⟩ ?_;rintro vs w2 ⟨i,rfl,hi,he,ho⟩ _;simp only[nW,gd,rs,iN,dx];by_cases hlt:(i:Int) < (a.kids.length:Int)
 ·have h1:i < a.kids.length:=by omega
  have h2:i < b.kids.length:=by omega
  simp only[hlt,Yj,rs];obtain⟨x,p,hx,hrx⟩:=DD ha h1;obtain⟨y,q,hy,hry⟩:=DD hb h2;refine quiet (q_at _ (fun W hW=>(hrx W (OwnS.keptIn (ho.grow hW))).1) ?_);refine q_at _ (fun W hW=>(hrx W (OwnS.keptIn (ho.grow hW))).2) ?_;refine q_at _ (fun W hW=>(hry W (OwnS.keptIn (ho.grow hW))).1) ?_;refine q_at _ (fun W hW=>(hry W (OwnS.keptIn (ho.grow hW))).2) ?_;refine gX _ (fun W hW=>TS (ih i h1 h2 x y W (hx.at_ (ho.grow hW)) (hy.at_ (ho.grow hW))) hW) ?_;refine q_do _ (fun W=>bW (by simp[Op.unary];rfl)) ?_;intro w3 hw;have ho:=ho.grow hw;rw[Ob.Qz h1 h2] at he;cases hq:Ob.eqb a.kids[i] b.kids[i] with
 |true=>
   simp only[YE,i_f,rs];rw[aB (by omega) (by omega)];refine bO ⟨i+1,rfl,by omega,?_,ho⟩ (by simp[n0,RowKit.intOf];omega);rw[he,hq];rfl
 |false=>
   simp only[YJ,i_t];exact hK _ _ ⟨by rw[he,hq];rfl,ho.done⟩
 ·simp only[hlt,Yi,rs];refine hK _ _ ⟨?_,ho.done⟩;rw[he,YP (by omega),YP (by omega),Ob.eqbs]
theorem Fe (n:Nat):∀(a b:Ob) (x y:Value) (w:World),a.wt≤n→a.wt≤1000000000→OV (InW w) w x a→OV (InW w) w y b→Ret prog 17 #[x,y] w (fun v w'=>v=.bool (Ob.eqb a b)∧Below w.heap.size w w'):=by
 induction n with
|zero=>intro a b x y w h;have:=a.FN;omega
|succ n ih=>
 intro a b x y w hn hw hx hy;obtain⟨ka,va,ca,rfl,ha⟩:=hx.open;obtain⟨kb,vb,cb,rfl,hb⟩:=hy.open;have hww:Ob.wts a.kids≤1000000000:=by cases a;rw[Ob.wt] at hw;simp only[Ob.kids];omega
 have hkt:Pl.tot a.keys≤1000000000:=by cases a;rw[Ob.wt] at hw;simp only[Ob.keys];omega
 have hlk:=Ob.wD a.kids;rw[Ob.WQ];refine aO fun K hK=>yT ?_;unfold qS dx gtx ctx;refine cY a ha.keys.one ha.kids.one (Own.start w) fun p w1 ho=>?_;refine cY b hb.keys.one hb.kids.one ho fun q w2 ho=>?_;rw[cN,ob_k ho 1 rfl,cN,ob_k ho 0 rfl];by_cases h1:a.k=b.k
 case neg=>simp only[rs,h1,Yi,Y8] at hK ⊢;exact hK _ _ ⟨rfl,ho.done⟩
 simp only[rs,h1,Yj,vI,ob_n ho 1 rfl,ob_n ho 0 rfl,Y2] at hK ⊢;by_cases h2:a.n=b.n
 case neg=>simp only[rs,h2,Yi,Y8] at hK ⊢;exact hK _ _ ⟨rfl,ho.done⟩
 simp only[rs,h2,Yj,PB,ob_g ho 1 rfl,ob_g ho 0 rfl,Y2] at hK ⊢;by_cases h3:a.g=b.g
 case neg=>simp only[rs,h3,Yi,Y8] at hK ⊢;exact hK _ _ ⟨rfl,ho.done⟩
 simp only[rs,h3,Yj,Cd,ob_s ho 1 rfl,ob_s ho 0 rfl,Y2] at hK ⊢;by_cases h4:a.s=b.s
 case neg=>simp only[rs,h4,Yi,Y8] at hK ⊢;exact hK _ _ ⟨rfl,ho.done⟩
 simp only[rs,h4,Yj,eC,bV ho 1 rfl,bV ho 0 rfl,Y2] at hK ⊢;have hkl:=Pl.dU a.keys;refine dO (P3 ka kb a.keys b.keys w2 (ho.Pv ha.keys.1) (ho.Pv hb.keys.1) (by omega)) rfl ho fun w3 ho=>?_;by_cases h5:a.keys=b.keys
 case neg=>simp only[rs,h5,Yi,Y8] at hK ⊢;exact hK _ _ ⟨rfl,ho.done⟩
 simp only[rs,h5,Yj,dR,bJ ho 1 rfl,bJ ho 0 rfl,Y2] at hK ⊢;refine dO (Ry w3 (ha.in_ ho) (hb.in_ ho) (by omega) ?_) rfl ho fun w4 ho=>?_
 ·intro i hi hj x y W hx hy;have:=Ec hi;exact ih _ _ x y W (by omega) (by omega) hx hy
 exact hK _ _ ⟨rfl,ho.done⟩
end
end Go.Proofs.YtkejpieaafeblaaGreatDoor





namespace Go.Proofs.YtkejpieaafeblaaGreatDoor
section
open Go
namespace Vl
theorem HG (key:List UInt8):∀(ks:List (List UInt8)) (cs:List Ob),key ∉ (cB key ks cs).1
|[],_=>by simp[cB]
|_::_,[]=>by simp[cB]
|a::ks,c::cs=>by
  rw[cB];split
  ·exact HG key ks cs
  ·rename_i h
   simp only[Yq,not_or];exact⟨fun e=>h e.symm,HG key ks cs⟩
theorem Ff (key:List UInt8):∀(ks:List (List UInt8)) (cs:List Ob),(cB key ks cs).1.length=(cB key ks cs).2.length
|[],_=>by simp[cB]
|_::_,[]=>by simp[cB]
|a::ks,c::cs=>by
  rw[cB];split
  ·exact Ff key ks cs
  ·simp[Ff key ks cs]
theorem ER (key:List UInt8):∀(ks:List (List UInt8)) (cs:List Ob),(cB key ks cs).1.Sublist ks
|[],_=>by simp[cB]
|_::_,[]=>by simp[cB]
|a::ks,c::cs=>by
  rw[cB];split
  ·exact (ER key ks cs).trans (List.sublist_cons_self _ _)
  ·exact (ER key ks cs).cons_cons _
theorem EG (key:List UInt8):∀(ks:List (List UInt8)) (cs:List Ob),(cB key ks cs).2.Sublist cs
|[],_=>by simp[cB]
|_::_,[]=>by simp[cB]
|a::ks,c::cs=>by
  rw[cB];split
  ·exact (EG key ks cs).trans (List.sublist_cons_self _ _)
  ·exact (EG key ks cs).cons_cons _
theorem Mg (o:Ob)(key:List UInt8):get (bD o key) key=none:=by
 unfold get;split
 ·rw[Yg];rw[acL];exact HG key o.keys o.kids
 ·rfl
theorem Jn {d:Nat}:∀{os:List Ob},lO d os=0↔∀o∈os,check d o=0
|[]=>by simp[lO]
|o::os=>by
  rw[lO];split
  ·rename_i h
   constructor
   ·intro e;exact absurd e h
   ·intro e;exact absurd (e o abF) h
  ·rename_i h
   have h:=YA.1 h;rw[Jn];simp[h]
theorem SV (l:List (List UInt8)){i:Nat}(h:i < l.length):l.getD i []=l[i]:=by rw[Zn,YB h];rfl
theorem uX {o:Ob}:rising o=true↔o.keys.length=o.kids.length∧Rise o.keys∧(∀k∈o.keys,name k=true∧(o.k=9→k≠lenK))∧∀c∈o.kids,c.k≠0:=by
 unfold rising;simp only[Ys,Yx,YI,Z3];constructor
 ·rintro⟨hl,h⟩;have hat:∀i (hi:i < o.keys.length),name o.keys[i]=true∧(i=0∨less (o.keys.getD (i - 1) []) o.keys[i]=true)∧(o.k=9→o.keys[i]≠lenK)∧(o.kids[i]'(by omega)).k≠0:=by
   intro i hi;have:=h i hi;unfold zZ at this;rw[SV _ hi,Zn (l:=o.kids),YB (by omega:i < o.kids.length)] at this;simp only[Ys,ZB,Yx,ZQ,aaW,ZA,YK] at this;obtain⟨⟨⟨a,b⟩,c⟩,e⟩:=this;exact⟨a,b,fun h9 hk=>c.elim (fun x=>x h9) (fun x=>x hk),e⟩
  refine⟨hl,?_,?_,?_⟩
  ·refine ZX.2 fun i j hi hj hij=>?_;have step:∀i (hi:i+1 < o.keys.length),less o.keys[i] o.keys[i+1]=true:=by
    intro i hi;have:=(hat (i+1) hi).2.1;rcases this with h0|h0
    ·omega
    ·rwa [Nat.add_sub_cancel,SV _ (by omega:i < o.keys.length)] at h0
   have:∀d,∀j (hj:j < o.keys.length),j=i+1+d→less o.keys[i] o.keys[j]=true:=by
    intro d
    induction d with
   |zero=>intro j hj he;subst he;exact step i hj
   |succ d ih=>
     intro j hj he;subst he;exact jN (ih (i+1+d) (by omega) rfl) (step (i+1+d) hj)
   exact this (j - (i+1)) j hj (by omega)
  ·intro k hk;obtain⟨i,hi,rfl⟩:=ZC hk;exact⟨(hat i hi).1,(hat i hi).2.2.1⟩
  ·intro c hc;obtain⟨i,hi,rfl⟩:=ZC hc;exact (hat i (by omega)).2.2.2
 ·rintro⟨hl,hr,hk,hc⟩;refine⟨hl,fun i hi=>?_⟩;unfold zZ;rw[SV _ hi,Zn (l:=o.kids),YB (by omega:i < o.kids.length)];simp only[Ys,ZB,Yx,ZQ,aaW,ZA,YK];refine⟨⟨⟨(hk _ (YH hi)).1,?_⟩,?_⟩,hc _ (YH _)⟩
  ·rcases Zd i with h0|h0
   ·exact .inl h0
   ·refine .inr ?_;rw[SV _ (by omega:i - 1 < o.keys.length)];exact pS hr (by omega) hi
  ·by_cases h9:o.k=9
   ·exact .inr ((hk _ (YH hi)).2 h9)
   ·exact .inl h9
theorem qV {d:Nat}{o:Ob}:check d o=0↔(d≤24∧eA o=true∧(o.k=9→d≤1)∧fits o=true∧o.s.length≤long o.k∧o.kids.length≤8191∧form o=true)∧∀c∈o.kids,check (d+1) c=0:=by
 rw[wA];have hw:why d o=0↔(d≤24∧eA o=true∧(o.k=9→d≤1)∧fits o=true∧o.s.length≤long o.k∧o.kids.length≤8191∧form o=true):=by
  unfold why;split
  ·simp;omega
  rename_i h1
  split
  ·rename_i h2
   simp only[show (10:Int)≠0 by decide,false_iff,not_and];rintro - a b;rcases h2 with h2|h2
   ·rw[h2] at a;cases a
   ·have:=b h2.1;omega
  rename_i h2
  simp only[not_or,Bool.not_eq_false,not_and,Nat.not_lt] at h2;split
  ·rename_i h3;simp[h3]
  rename_i h3
  split
  ·rename_i h4;simp;intros;omega
  rename_i h4
  split
  ·rename_i h5;simp;intros;omega
  rename_i h5
  split
  ·rename_i h6;simp[h6]
  rename_i h6
  simp only[Bool.not_eq_false] at h3 h6;exact⟨fun _=>⟨by omega,h2.1,h2.2,h3,by omega,by omega,h6⟩,fun _=>rfl⟩
 split
 ·rename_i h
  constructor
  ·intro e;exact absurd e h
  ·intro e;exact absurd (hw.2 e.1) h
 ·rename_i h
  have h:=YA.1 h;rw[Jn];exact⟨fun e=>⟨hw.1 h,e⟩,fun e=>e.2⟩
theorem D8 {d:Nat}{o:Ob}{key:List UInt8}(h:check d o=0)(hk:keyed o=true):check d (bD o key)=0:=by
 obtain⟨⟨a1,a2,a3,a4,a5,a6,a7⟩,hc⟩:=qV.1 h;have s1:=ER key o.keys o.kids;have s2:=EG key o.keys o.kids;have h79:o.k=7∨o.k=9:=by simpa[keyed] using hk
 have ek:(bD o key).k=o.k:=rfl;have eks:(bD o key).keys=(cB key o.keys o.kids).1:=rfl;have ecs:(bD o key).kids=(cB key o.keys o.kids).2:=rfl;refine qV.2 ⟨⟨a1,?_,a3,a4,a5,?_,?_⟩,fun c hc'=>hc c (s2.subset hc')⟩
 ·unfold eA at a2 ⊢;rw[ek];rcases h79 with h7|h9
  ·rw[h7] at a2 ⊢;simpa[used,show (bD o key).n=o.n from rfl,show (bD o key).g=o.g from rfl,show (bD o key).s=o.s from rfl] using a2
  ·rw[h9] at a2 ⊢;simpa[used,show (bD o key).n=o.n from rfl,show (bD o key).g=o.g from rfl,show (bD o key).s=o.s from rfl] using a2
 ·rw[ecs];exact Zb s2.length_le a6
 ·unfold form at a7 ⊢;rw[ek];simp only[Ys] at a7 ⊢;refine⟨a7.1,?_⟩;rw[Yk h79] at a7 ⊢;have hr:rising o=true:=by simpa using a7.2
  obtain⟨r1,r2,r3,r4⟩:=uX.1 hr;have:rising (bD o key)=true:=by
   refine uX.2 ⟨?_,?_,?_,?_⟩
   ·rw[eks,ecs];exact Ff key _ _
   ·rw[eks];exact List.Pairwise.sublist s1 r2
   ·rw[eks];exact fun k hk=>r3 k (s1.subset hk)
   ·rw[ecs];exact fun c hc=>r4 c (s2.subset hc)
  simp[this]
end Vl
namespace Dk
end Dk
end
section
open Go
namespace Ps
open Lx (next Tok Om)
open Wr (num parts dG bP)
def At (s:List UInt8)(a:Int)(p:List UInt8)(b:Int):Prop:=∃(x:Tok) (a':Int),Om p x∧next s a=({ x with a:=a',t:=b },0)
def Toks (s:List UInt8):Int→List (List UInt8)→Int→Prop
|a,[],b=>a=b
|a,p::ps,b=>∃c,At s a p c∧Toks s c ps b
end Ps
end
end Go.Proofs.YtkejpieaafeblaaGreatDoor

namespace Go.Proofs.YtkejpieaafeblaaGreatDoor
section
open Go
namespace Lx
open Oc
structure Form (x:Tok):Prop where
 int:x.k=1→-2147483647≤x.n∧x.n≤2147483647
 real:x.k=2→Fx.okB x.n=true
 str:x.s.length≤32767
 name:x.k=4→Vl.name x.s=true
 kind:x.k=0∨x.k=1∨x.k=2∨x.k=3∨x.k=4∨x.k=5∨x.k=6
theorem Sc:Form none_:=⟨fun e=>by simp[none_] at e,fun e=>by simp[none_] at e,by simp[none_],fun e=>by simp[none_] at e,.inl rfl⟩
theorem Dm {k a t:Int}{x:List UInt8}{m:Int}(h:(told k a t x m).2=0)(hm:m≤32767)(hk:k=3∨k=4∨k=5)(hn:k=4→m≤127∧(0:UInt8) ∉ x):Form (told k a t x m).1:=by
 have e:=EN h;unfold told at h;split at h
 ·simp[refused] at h
 rename_i hx
 rw[e];refine⟨?_,?_,?_,?_,?_⟩
 ·intro h1;simp only at h1;omega
 ·intro h1;simp only at h1;omega
 ·show x.length≤_;omega
 ·intro h1;obtain⟨h2,h3⟩:=hn h1;show Vl.name x=true;unfold Vl.name;simp only[Ys,Yx];exact⟨by omega,h3⟩
 ·show k=0∨k=1∨k=2∨k=3∨k=4∨k=5∨k=6;omega
theorem MV:∀c:UInt8,regular c=true→c≠0:=all8 (by decide +kernel)
theorem TC (a b:UInt8):¬(digit a < 0)→¬(digit b < 0)→¬(16*digit a+digit b=0)→byte (digit a) (digit b)≠0:=by
 have hd:∀c:UInt8,digit c≤15:=all8 (by decide +kernel);intro h1 h2 h3 h4;have ha:=hd a;have hb:=hd b;unfold byte at h4;have h5:=congrArg UInt8.toNat h4;rw[UInt8.toNat_ofNat_of_lt' (by show _ < 256;omega)] at h5;have:(0:UInt8).toNat=0:=rfl;omega
theorem Rx (n:Nat):∀(l x:List UInt8),l.length≤n→l.all regular=true→fA l=some x→(0:UInt8) ∉ x:=by
 induction n with
|zero=>
  intro l x hl _ h;cases l with
 |nil=>simp[fA] at h;subst h;simp
 |cons _ _=>simp at hl
|succ n ih=>
  intro l x hl hr h;cases l with
 |nil=>simp[fA] at h;subst h;simp
 |cons c t=>
   simp only[Zo,Ys] at hr;by_cases hc:c=35
   ·subst hc
    match t,hl,hr,h with
   |[],_,_,h=>simp[fA] at h
   |[a],_,_,h=>simp[fA] at h
   |a::b::t,hl,hr,h=>
     simp only[fA,if_true] at h;split at h
     ·cases h
     ·rename_i hh
      simp only[not_or] at hh;obtain⟨y,hy,rfl⟩:=map_some h;have h1:(0:UInt8) ∉ y:=ih t y (by simp at hl;omega) (by simp at hr ⊢;exact hr.2.2.2) hy;have h2:=TC a b hh.1 hh.2.1 hh.2.2;simp only[Yq,not_or];exact⟨fun e=>h2 e.symm,h1⟩
   ·rw[KU hc] at h;obtain⟨y,hy,rfl⟩:=map_some h;have h1:(0:UInt8) ∉ y:=ih t y (by simpa using hl) hr.2 hy;simp only[Yq,not_or];exact⟨fun e=>MV c hr.1 e.symm,h1⟩
theorem Tw:∀l:List UInt8,(l.take (runF l)).all regular=true:=fun l=>(K7 l).1
theorem Vs (s:List UInt8)(i:Nat):(cut s i (run s i)).all regular=true:=by
 unfold cut run;rw[abP];exact Tw _
theorem Px {t:List UInt8}{a b:Int}(h:(rY t a b).2=0):Form (rY t a b).1:=by
 unfold rY at h ⊢;split at h
 ·rename_i h1
  rw[Yh h1];split at h
  ·rename_i h2;simp[refused] at h;exact absurd h h2
  rename_i h2
  rw[Yg h2];have h2:=YA.1 h2;refine⟨fun _=>?_,fun e=>?_,by simp,fun e=>?_,.inr (.inl rfl)⟩
  ·unfold whole at h2 ⊢;split at h2
   ·simp at h2
   ·rename_i h3
    rw[Yg h3];simp only;split<;>omega
  ·simp at e
  ·simp at e
 rename_i h1
 rw[Yg h1];split at h
 ·rename_i h2
  rw[Yh h2];refine⟨fun e=>?_,fun _=>?_,by simp,fun e=>?_,.inr (.inr (.inl rfl))⟩
  ·simp at e
  ·have h3:=h2.2;show Fx.okB (Fx.read t).1=true;unfold Fx.read at h3 ⊢;split at h3
   ·rename_i h4
    rw[Yh h4];split at h3
    ·simp at h3
    ·rename_i h5
     rw[Yg h5];generalize (if Fx.minus t=true then -Fx.mag t else Fx.mag t)=q at h3 ⊢;unfold Fx.ans at h3 ⊢;cases hq:Fx.okB q with
    |true=>rw[Yh rfl];exact hq
    |false=>rw[hq] at h3;simp at h3
   ·simp at h3
  ·simp at e
 rename_i h2
 rw[Yg h2];split at h
 ·simp[refused] at h
 rename_i h3
 rw[Yg h3];exact Dm h (by decide) (by decide) (fun h=>absurd h (by decide))
theorem HU (s:List UInt8)(a n:Nat)(hn:n≤2):Form (mark s a n).1:=by
 refine⟨fun e=>?_,fun e=>?_,?_,fun e=>?_,by simp[mark]⟩
 ·simp[mark] at e
 ·simp[mark] at e
 ·show (cut s a (a+n)).length≤_;unfold cut;rw[YC];omega
 ·simp[mark] at e
theorem O7 {s:List UInt8}{a:Nat}(h:(token s a).2=0):Form (token s a).1:=by
 unfold token at h ⊢;split at h
 ·exact⟨fun e=>by simp at e,fun e=>by simp at e,by simp,fun e=>by simp at e,.inl rfl⟩
 rename_i c t hd
 split at h
 ·rename_i h1;rw[Yh h1];exact HU s a 1 (by omega)
 rename_i h1;rw[Yg h1]
 split at h
 ·rename_i h2;rw[Yh h2]
  split at h
  ·rename_i h3;rw[Yh h3];exact HU s a 2 (by omega)
  ·rename_i h3;rw[Yg h3]
   unfold hex at h ⊢;split at h
   ·exact Sc
   ·exact Dm h (by decide) (by decide) (fun h=>absurd h (by decide))
 rename_i h2;rw[Yg h2]
 split at h
 ·rename_i h3;rw[Yh h3]
  split at h
  ·rename_i h4;rw[Yh h4];exact HU s a 2 (by omega)
  ·simp[refused] at h
 rename_i h3;rw[Yg h3]
 split at h
 ·rename_i h4;rw[Yh h4]
  unfold name at h ⊢;split at h
  ·simp[refused] at h
  ·rename_i x hx
   refine Dm h (by decide) (by decide) (fun _=>⟨by decide,Rx _ _ _ (Yw _) (Vs s (a+1)) hx⟩)
 rename_i h4;rw[Yg h4]
 split at h
 ·rename_i h5;rw[Yh h5]
  unfold text at h ⊢;split at h
  ·simp[refused] at h
  ·exact Dm h (by decide) (by decide) (fun h=>absurd h (by decide))
 rename_i h5;rw[Yg h5]
 split at h
 ·simp[refused] at h
 rename_i h6;rw[Yg h6]
 exact Px h
theorem vL {s:List UInt8}{i:Int}(h:(next s i).2=0):Form (next s i).1:=by
 unfold next at h ⊢
 split at h
 ·simp[refused] at h
 rename_i h1
 rw[Yg h1];exact O7 h
end Lx
end
section
open Go
namespace Ps
open Lx (next Tok)
theorem B7 {s:List UInt8}{n:Nat}{a:Int}(h:(obj s n a).2.2=0):(next s a).2=0∧(next s a).1.k≠0∧bG (next s a).1=true∧∃m,n=m+1 ∧
  obj s n a=if (next s a).1.k≠6 then leaf s (next s a).1 else if (next s a).1.s=[91] then arr s (decide (m≠0)) (obj s m) (s.length+1) (next s a).1.t [] else dict s (obj s m) (s.length+1) (next s a).1.t dE []:=by
 cases n with
|zero=>
  rw[obj] at h;split at h
  ·rename_i h1;exact absurd h h1
  split at h
  ·simp[bad] at h
  split at h
  ·simp[bad] at h
  ·simp[bad] at h
|succ n=>
  rw[obj] at h;split at h
  ·rename_i h1;exact absurd h h1
  rename_i h1
  split at h
  ·simp[bad] at h
  rename_i h2
  split at h
  ·simp[bad] at h
  rename_i h3
  refine⟨YA.1 h1,h2,by simpa using h3,n,rfl,?_⟩;rw[obj,Yg h1,Yg h2,Yg h3]
def Val (d:Nat)(o:Ob):Prop:=Vl.check d o=0∧o.k≠9
theorem wK {d:Nat}(hd:d≤24){k n g:Int}{s:List UInt8}(hk:k≠9∧k≠7)(hu:Vl.eA (.mk k n g s [] [])=true)(hf:Vl.fits (.mk k n g s [] [])=true)(hl:s.length≤Vl.long k)(hn:k=5→Vl.name s=true):Val d (.mk k n g s [] []):=by
 refine⟨Vl.qV.2 ⟨⟨hd,hu,fun h=>absurd h hk.1,hf,hl,by simp[Ob.kids],?_⟩,fun c hc=>by simp[Ob.kids] at hc⟩,hk.1⟩;unfold Vl.form;have h79:decide ((Ob.mk k n g s [] []).k=7∨(Ob.mk k n g s [] []).k=9)=false:=Yl (by
  rintro (h|h)
  ·exact hk.2 h
  ·exact hk.1 h)
 rw[h79];simp only[YJ,abB,ZE];by_cases h5:k=5
 ·rw[show (Ob.mk k n g s [] []).s=s from rfl,hn h5];simp
 ·rw[Yl (show ¬(Ob.mk k n g s [] []).k=5 from h5)];rfl
theorem Tc {s:List UInt8}{a:Int}{d:Nat}(hd:d≤24)(h0:(next s a).2=0)(hk:(next s a).1.k≠0)(h6:(next s a).1.k≠6):Val d (leaf s (next s a).1).1:=by
 have f:=Lx.vL h0;unfold leaf;split
 ·rename_i h1
  have hi:=f.int h1;cases hr:ref s (next s a).1 with
 |some p=>
   have hb:=Uv hr;exact wK hd (by decide) rfl (by simp[Vl.fits,Ob.k,Ob.n,Ob.g];exact⟨Yk ⟨hb.2.2.1,hb.2.2.2.1⟩,Yk ⟨hb.2.2.2.2.1,hb.2.2.2.2.2⟩⟩) (by simp) (by decide)
 |none=>exact wK hd (by decide) rfl (by simp[Vl.fits,Ob.k,Ob.n];exact Yk hi) (by simp) (by decide)
 split
 ·rename_i h1 h2
  have hr:=f.real h2;have hr2:-1073741824≤(next s a).1.n∧(next s a).1.n≤1073741824:=by simpa[Fx.okB] using hr
  exact wK hd (by decide) rfl (by simp[Vl.fits,Ob.k,Ob.n];exact Yk hr2) (by simp) (by decide)
 split
 ·exact wK hd (by decide) rfl rfl (by have:=f.str;show _≤32767;exact this) (fun h=>absurd h (by decide))
 split
 ·rename_i h1 h2 h3 h4
  have hn:=f.name h4;refine wK hd (by decide) rfl rfl ?_ (fun _=>hn);unfold Vl.name at hn;simp only[Ys,Yx] at hn;show _≤127;exact hn.1
 split
 ·exact wK hd (by decide) rfl rfl (by simp) (by decide)
 ·refine wK hd (by decide) rfl ?_ (by simp) (by decide);split<;>rfl
def UO (s:List UInt8)(d:Nat)(ok:Bool)(sub:Int→R):Prop:=∀a,(sub a).2.2=0→Val d (sub a).1∧bG (next s a).1=true∧ok=true
theorem Qj {s:List UInt8}{d:Nat}{ok:Bool}{sub:Int→R}(hd:d≤24)(hg:UO s (d+1) ok sub):∀(m:Nat) (a:Int) (acc:List Ob),acc.length≤8191→(∀o∈acc,Val (d+1) o)→(arr s ok sub m a acc).2.2=0→Val d (arr s ok sub m a acc).1
|0,a,acc,_,_,h=>by simp[arr,bad] at h
|m+1,a,acc,hl,hv,h=>by
  rw[arr] at h ⊢;split at h
  ·rename_i h1
   rw[Yh h1];refine⟨Vl.qV.2 ⟨⟨hd,rfl,fun e=>by simp[Ob.k] at e,rfl,by simp[Ob.s],hl,rfl⟩,fun c hc=>(hv c hc).1⟩,by simp[Ob.k]⟩
  rename_i h1
  rw[Yg h1];split at h
  ·simp[bad] at h
  rename_i h2
  rw[Yg h2];split at h
  ·rename_i h3;exact absurd h h3
  rename_i h3
  rw[Yg h3];split at h
  ·rename_i h4;exact absurd h h4
  rename_i h4
  rw[Yg h4];obtain⟨g1,g2,g3⟩:=hg a (YA.1 h4);have hlt:acc.length≠8191:=fun e=>h2 ⟨YA.1 h3,e,g2,g3⟩;exact Qj hd hg m _ _ (by simp;omega) (fun o ho=>by
   rcases YZ.1 ho with ho|ho
   ·exact hv o ho
   ·rw[Zs] at ho;subst ho;exact g1) h
structure DictV (d:Nat) (o:Ob) (met:List (List UInt8)):Prop where
 k:o.k=7
 n:o.n=0
 g:o.g=0
 s:o.s=[]
 rise:Vl.Rise o.keys
 len:o.keys.length=o.kids.length
 names:∀k∈o.keys,Vl.name k=true
 kids:∀c∈o.kids,c.k≠0∧Val (d+1) c
 few:o.kids.length≤met.length
 most:met.length≤8191
theorem Rj {o v:Ob}{key:List UInt8}:(∀k∈(Vl.put o key v).keys,k=key∨k∈o.keys)∧(∀c∈(Vl.put o key v).kids,c=v∨c∈o.kids)∧(Vl.put o key v).kids.length≤o.kids.length+1:=by
 unfold Vl.put;simp only[Ob.keys,Ob.kids];refine⟨fun k hk=>?_,fun c hc=>?_,?_⟩
 ·rcases YZ.1 hk with h|h
  ·exact .inr (Zm h)
  ·rcases Yq.1 h with h|h
   ·exact .inl h
   ·exact .inr (Zi h)
 ·rcases YZ.1 hc with h|h
  ·exact .inr (Zm h)
  ·rcases Yq.1 h with h|h
   ·exact .inl h
   ·exact .inr (Zi h)
 ·simp only[Yp,YC,Yr,Yv];split<;>omega
theorem Pf {d:Nat}{o v:Ob}{met:List (List UInt8)}{key:List UInt8}(h:DictV d o met)(hk:Vl.name key=true)(hv:Val (d+1) v)(hm:met.length≠8191):DictV d (join o key v) (met++[key]):=by
 have hmost:=h.most;have hfew:=h.few;unfold join;split
 ·rename_i h0
  obtain⟨p1,p2⟩:=Vl.Kd (key:=key) (v:=v) h.rise h.len;obtain⟨m1,m2,m3⟩:=Rj (o:=o) (v:=v) (key:=key);refine⟨h.k,h.n,h.g,h.s,p1,p2,fun k hkk=>?_,fun c hc=>?_,by simp;omega,by simp;omega⟩
  ·rcases m1 k hkk with rfl|e
   ·exact hk
   ·exact h.names k e
  ·rcases m2 c hc with rfl|e
   ·exact⟨h0,hv⟩
   ·exact h.kids c e
 ·exact⟨h.k,h.n,h.g,h.s,h.rise,h.len,h.names,h.kids,by simp;omega,by simp;omega⟩
theorem QO {d:Nat}(hd:d≤24){o:Ob}{met:List (List UInt8)}(h:DictV d o met):Val d o:=by
 have hfew:=h.few;have hmost:=h.most;refine⟨Vl.qV.2 ⟨⟨hd,?_,fun e=>?_,?_,?_,by omega,?_⟩,fun c hc=>(h.kids c hc).2.1⟩,by rw[h.k];decide⟩
 ·simp[Vl.eA,Vl.used,h.k,h.n,h.g,h.s]
 ·rw[h.k] at e;simp at e
 ·simp[Vl.fits,h.k]
 ·rw[h.s];simp
 ·have hr:Vl.rising o=true:=Vl.uX.2 ⟨h.len,h.rise,fun k hk=>⟨h.names k hk,fun e=>by rw[h.k] at e;simp at e⟩,fun c hc=>(h.kids c hc).1⟩;simp[Vl.form,h.k,hr]
theorem NH {s:List UInt8}{d:Nat}{ok:Bool}{sub:Int→R}(hd:d≤24)(hg:UO s (d+1) ok sub):∀(m:Nat) (a:Int) (o:Ob) (met:List (List UInt8)),DictV d o met→(dict s sub m a o met).2.2=0→Val d (dict s sub m a o met).1
|0,a,o,met,_,h=>by simp[dict,bad] at h
|m+1,a,o,met,hv,h=>by
  rw[dict] at h ⊢;split at h
  ·rename_i h1;exact absurd h h1
  rename_i h1
  rw[Yg h1];have h1:=YA.1 h1;split at h
  ·rename_i h2
   rw[Yh h2];exact QO hd hv
  rename_i h2
  rw[Yg h2];split at h
  ·simp[bad] at h
  rename_i h3
  rw[Yg h3];split at h
  ·simp[bad] at h
  rename_i h4
  rw[Yg h4];split at h
  ·simp[bad] at h
  rename_i h5
  rw[Yg h5];split at h
  ·simp[bad] at h
  rename_i h6
  rw[Yg h6];split at h
  ·rename_i h7;exact absurd h h7
  rename_i h7
  rw[Yg h7];have f:=Lx.vL h1;exact NH hd hg m _ _ _ (Pf hv (f.name (YA.1 h4)) (hg _ (YA.1 h7)).1 h6) h
theorem UU (s:List UInt8):∀(n:Nat),n≤24→∀a,(obj s n a).2.2=0→Val (25 - n) (obj s n a).1:=by
 intro n
 induction n with
|zero=>
  intro _ a h;obtain⟨_,_,_,m,hm,_⟩:=B7 h;omega
|succ n ih=>
  intro hn a h;obtain⟨h1,h2,h3,m,hm,he⟩:=B7 h;have hm:n=m:=by omega
  subst hm;rw[he] at h ⊢;have hd:25 - (n+1)≤24:=by omega
  have hg:UO s (25 - (n+1)+1) (decide (n≠0)) (obj s n):=by
   intro b hb;obtain⟨_,_,b3,k,hk,_⟩:=B7 hb;have e:25 - (n+1)+1=25 - n:=by omega
   rw[e];exact⟨ih (by omega) b hb,b3,Yk (by omega)⟩
  split at h
  ·rename_i h4
   rw[Yh h4];exact Tc hd h1 h2 h4
  rename_i h4
  rw[Yg h4];split at h
  ·rename_i h5
   rw[Yh h5];exact Qj hd hg _ _ _ (by simp) (fun o ho=>by cases ho) h
  ·rename_i h5
   rw[Yg h5];exact NH hd hg _ _ _ _ ⟨rfl,rfl,rfl,rfl,List.Pairwise.nil,rfl,(fun k hk=>by cases hk),(fun c hc=>by cases hc),by simp[dE,Ob.kids],by simp⟩ h
theorem Vi {s:List UInt8}{a:Int}(h0:(next s a).2=0):(leaf s (next s a).1).1.wt≤32773:=by
 have f:=(Lx.vL h0).str;unfold leaf
 (repeat' split)<;>simp[Ob.wt,Ob.wts,Pl.tot,Vl.ob0]<;>omega
def U1 (sub:Int→R):Prop:=∀a,(sub a).2.2=0→((sub a).1.wt:Int)≤40000*((sub a).2.1 - a)
theorem Uq {s:List UInt8}{ok:Bool}{sub:Int→R}(hg:U1 sub)(hb:Good s sub)(a0:Int):∀(m:Nat) (a:Int) (acc:List Ob),(Ob.wts acc:Int)≤40000*(a - a0)→(arr s ok sub m a acc).2.2=0→((arr s ok sub m a acc).1.wt:Int)≤6+40000*((arr s ok sub m a acc).2.1 - a0)
|0,a,acc,_,h=>by simp[arr,bad] at h
|m+1,a,acc,hw,h=>by
  rw[arr] at h ⊢;split at h
  ·rename_i h1
   rw[Yh h1];have b:=Lx.eE h1.1 (by rw[h1.2.1];decide);have:=Lx.eW s a.toNat;simp[Ob.wt,Pl.tot];omega
  rename_i h1
  rw[Yg h1];split at h
  ·simp[bad] at h
  rename_i h2
  rw[Yg h2];split at h
  ·rename_i h3;exact absurd h h3
  rename_i h3
  rw[Yg h3];split at h
  ·rename_i h4;exact absurd h h4
  rename_i h4
  rw[Yg h4];have h4:=YA.1 h4;have g:=hg a h4;exact Uq hg hb a0 m _ _ (by rw[Vl.KK,Ob.wts,Ob.wts];omega) h
theorem VJ {o v:Ob}{key:List UInt8}:(join o key v).wt≤o.wt+(key.length+1)+v.wt:=by
 unfold join;split
 ·exact Vl.L8 o key v
 ·omega
theorem EI {s:List UInt8}{sub:Int→R}(hg:U1 sub)(hb:Good s sub)(a0:Int):∀(m:Nat) (a:Int) (o:Ob) (met:List (List UInt8)),(o.wt:Int)≤6+40000*(a - a0)→(dict s sub m a o met).2.2=0→((dict s sub m a o met).1.wt:Int)≤6+40000*((dict s sub m a o met).2.1 - a0)
|0,a,o,met,_,h=>by simp[dict,bad] at h
|m+1,a,o,met,hw,h=>by
  rw[dict] at h ⊢;split at h
  ·rename_i h1;exact absurd h h1
  rename_i h1
  rw[Yg h1];have h1:=YA.1 h1;split at h
  ·rename_i h2
   rw[Yh h2];have b:=Lx.eE h1 (by rw[h2.1];decide);have:=Lx.eW s a.toNat;simp only;omega
  rename_i h2
  rw[Yg h2];split at h
  ·simp[bad] at h
  rename_i h3
  rw[Yg h3];split at h
  ·simp[bad] at h
  rename_i h4
  rw[Yg h4];split at h
  ·simp[bad] at h
  rename_i h5
  rw[Yg h5];split at h
  ·simp[bad] at h
  rename_i h6
  rw[Yg h6];split at h
  ·rename_i h7;exact absurd h h7
  rename_i h7
  rw[Yg h7];have h7:=YA.1 h7;have g:=hg _ h7;have b:=Lx.eE h1 h3;have:=Lx.eW s a.toNat;have f:=(Lx.vL h1).str;have hj:=VJ (o:=o) (key:=(next s a).1.s) (v:=(sub (next s a).1.t).1);exact EI hg hb a0 m _ _ _ (by omega) h
theorem LS (s:List UInt8):∀n,U1 (obj s n):=by
 intro n
 induction n with
|zero=>
  intro a h;obtain⟨_,_,_,m,hm,_⟩:=B7 h;omega
|succ n ih=>
  intro a h;obtain⟨h1,h2,h3,m,hm,he⟩:=B7 h;have hm:n=m:=by omega
  subst hm;rw[he] at h ⊢;have b:=Lx.eE h1 h2;have:=Lx.eW s a.toNat;split at h
  ·rename_i h4
   rw[Yh h4];have:=Vi h1;have:=RO h1 h2;omega
  rename_i h4
  rw[Yg h4];split at h
  ·rename_i h5
   rw[Yh h5];have:=Uq (ok:=decide (n≠0)) ih (KC s n) (next s a).1.t (s.length+1) (next s a).1.t [] (by simp[Ob.wts]) h;omega
  ·rename_i h5
   rw[Yg h5];have:=EI ih (KC s n) (next s a).1.t (s.length+1) (next s a).1.t dE [] (by simp[dE,Ob.wt,Ob.wts,Pl.tot]) h;omega
end Ps
end
section
open Eng Go.RowKit
structure DictS (o:Ob) (met:List (List UInt8)):Prop where
 k:o.k=7
 rise:Vl.Rise o.keys
 len:o.keys.length=o.kids.length
 sub:∀k∈o.keys,k∈met
 few:o.kids.length≤met.length
theorem Pg {o v:Ob}{met:List (List UInt8)}{key:List UInt8}(h:DictS o met)(hn:key ∉ met):DictS (Ps.join o key v) (met++[key]):=by
 unfold Ps.join;split
 ·obtain⟨p1,p2,p3⟩:=Ps.Rj (o:=o) (v:=v) (key:=key);obtain⟨r1,r2⟩:=Vl.Kd (v:=v) h.rise h.len (key:=key);refine⟨h.k,r1,r2,fun k hk=>?_,by have:=h.few;simp;omega⟩;rcases p1 k hk with h1|h1
  ·simp[h1]
  ·exact aaS _ (h.sub k h1)
 ·exact⟨h.k,h.rise,h.len,fun k hk=>aaS _ (h.sub k hk),by have:=h.few;simp;omega⟩
abbrev Pw (b9 b6:Nat)(o:Ob)(vk vc vm:Value)(met:List (List UInt8))(n:Nat)(cs:List Value)(N:Mem):List Ent:=[obE b9 o vk vc,obE b6 ob0 nilS nilS,keyE vm met,keyE vk o.keys,kidE vc n cs,.mem N]
theorem Mj (s:List UInt8)(n:Nat)(hn:n≤23)(hs:s.length≤1000000000)(hsub:RObj s n)(a:Int)(h0:0≤a)(h1:a≤s.length)(M:Mem)(w:World)(hM:M.has w) :
  RetM prog 110 #[.string ⟨s.toArray⟩,.int .i64 a,.int .i64 (24 - (n:Int))] M w (objR (Ps.dict s (Ps.obj s n) (s.length+1) a Ps.dE [])):=by
 refine cM hM fun K hK=>zF ?_;unfold iY iN dx;have ho:=(((OwnS.memS hM).nilU 25 6).nilU 9 1).nilU 9 1;refine bN ho fun b6 w1 ho=>?_;have hb6:∀{PK:PKT} {K:VWP},DoX prog (aJ 25 #[(0,(.int .i64 7))]) w1 PK K=K (obV Ps.dE nilS nilS) w1:=aU (by kernel_rfl);rw[hb6];refine bN ho fun b9 w2 ho=>?_;refine aQ (o':=Ps.dE) (vk':=nilS) (vc':=nilS) 0 rfl rfl ho rfl fun w3 ho=>?_;have ho:OwnS M.A w w3 (Pw b9 b6 Ps.dE nilS nilS nilS [] 0 [] M):=ho;generalize hR:Ps.dict s (Ps.obj s n) (s.length+1) a Ps.dE []=R at *;refine loop (fun vs w'=>∃(a':Int) (m:Nat) (o:Ob) (met:List (List UInt8)) (cs:List Value) (vk vc vm:Value) (N:Mem),vs=[.int .i64 a',.int .i64 0,.int .i64 0,vm]∧0≤a'∧a'≤s.length∧(met.length:Int)≤a'∧met.length+m=s.length+1 ∧
   Ps.dict s (Ps.obj s n) m a' o met=R∧M.le N∧OVs N.A N.w cs o.kids∧DictS o met ∧
   OwnS M.A w w' (Pw b9 b6 o vk vc vm met o.kids.length cs N)) (fun vs _=>s.length - n0 vs)
  ⟨a,s.length+1,Ps.dE,[],[],nilS,nilS,nilS,M,rfl,h0,h1,by simpa using h0,by simp,hR,M.le_refl,OVs.nil,⟨rfl,List.Pairwise.nil,rfl,by simp[Ps.dE,Ob.keys],by simp[Ps.dE,Ob.kids]⟩,ho⟩ ?_
 clear ho hR;rintro vs w4 ⟨a',m,o,met,cs,vk,vc,vm,N,rfl,ha0,ha1,hla,hml,hdict,hle,hall,hds,ho⟩ _;simp only[oC,gd,iN,dx,gtx,cx];obtain⟨m,rfl⟩:∃k,m=k+1:=⟨m - 1,by omega⟩;rw[Ps.dict] at hdict;refine HD ho (mK s a' w4 (by omega)) fun b11 w5 ho=>?_;have hvk:=bT (ho.at_ 4 rfl);have hvc:=bT (ho.at_ 5 rfl);have hbd:=@Lx.eE s a';have hge:=Lx.eW s a'.toNat;generalize Lx.next s a'=x at *
 -- an error ends the loop
 have fail:∀{W:World} {L:List Ent} {N':Mem} (i j:Nat) (e:Int) {o:Ob} {vk vc:Value},OwnS M.A w W L→L[i]?=some (obE b6 o vk vc)→L[j]?=some (.mem N')→(∀x,(L.set i x)[j]?=some (.mem N'))→M.le N'→Ps.bad e=R →
   DoX prog (aJ 25 #[]) W (pk K) (fun t W=>DoX prog (aC 25 (.pointer (some ⟨b6,0,none⟩)) t) W (pk K) fun _ W=>RetX prog [.cell (.pointer (some ⟨b6,0,none⟩)) 25,.val (.int .i64 0),.val (.int .i64 e)] W K):=by
  intro W L N' i j e o vk vc ho hi hj hs hle he;refine oR i ho hi fun w' ho=>?_;refine hK _ _ N' _ j ho (hs _) hle ?_;rw[←he];exact⟨_,rfl,eZ⟩
 have ho:OwnS M.A w w5 (tokE b11 x.1::Pw b9 b6 o vk vc vm met o.kids.length cs N):=ho;simp only[rs];by_cases e1:x.2=0
 case neg=>
  rw[Yh e1] at hdict;simp only[e1,ne_eq,Yz,Yj,rs];exact fail 2 6 _ ho rfl rfl (fun _=>rfl) hle hdict
 rw[Yg (by rw[e1];simp)] at hdict;simp only[e1,ne_eq,not_true,Yi,rs,cO,tk_k ho 0 rfl];by_cases e2:x.1.k=6∧x.1.s=[62,62]
 ·rw[Yh e2] at hdict;simp only[Yk e2.1,rs,cL,tk_s ho 0 rfl,Yk e2.2];have ho:=ho.drew;refine⟨fun W=>(obE b9 o vk vc).is W∧(tokE b11 x.1).is W,⟨ho.at_ 1 rfl,ho.at_ 0 rfl⟩,?_⟩;refine fG (obV o vk vc) (fun W h=>dH (AtV.agg dM (cs:=obC o vk vc) rfl fun j u hj=>by rw[Yu];exact aV (T:=25) h.1 hj)) ?_;refine aZ _ (fun _=>bC ft2) ?_;refine fG (.int .i64 x.1.t) (fun W h=>aL nInt (aV (T:=58) (cs:=tokC x.1) (i:=2) h.2 rfl)) ?_;refine aQ 2 hvk hvc ho rfl fun w6 ho=>⟨⟨ho.at_ 1 rfl,ho.at_ 0 rfl⟩,?_⟩;have ho:OwnS M.A w w6 ([tokE b11 x.1,obE b9 o vk vc,obE b6 o vk vc,keyE vm met]++([keyE vk o.keys,kidE vc o.kids.length cs]++[.mem N])):=ho;have ho:=ho.front;have ho:OwnS M.A w w6 [keyE vk o.keys,kidE vc o.kids.length cs,tokE b11 x.1,obE b9 o vk vc,obE b6 o vk vc,keyE vm met,.mem N]:=ho;obtain⟨N2,hle2,hrow,ho⟩:=OwnS.gP (L:=[kidE vc o.kids.length cs,tokE b11 x.1,obE b9 o vk vc,obE b6 o vk vc,keyE vm met,.mem N]) ho 5 rfl;obtain⟨N3,hle3,hrow3,ho⟩:=OwnS.gP (L:=[tokE b11 x.1,obE b9 o vk vc,obE b6 o vk vc,keyE vm met,.mem N2]) ho 4 rfl;refine yK (aX (ho.agg 2 rfl dM)) eF eF (hK _ _ N3 _ 4 ho rfl ((hle.trans hle2).trans hle3) ?_);rw[←hdict];exact⟨_,rfl,ObAt.ov ⟨hrow.le hle3,hrow3,(hall.le hle2).le hle3⟩⟩
 rw[Yg e2] at hdict
 -- no end
 have on:IfX (.bool (decide (x.1.k=0))) (DoX prog (aJ 25 #[]) w5 (pk K) fun t41 w=>
 DoX prog (aC 25 (.pointer (some ⟨b6,0,none⟩)) t41) w (pk K) fun _ w=>
 RetX prog [.cell (.pointer (some ⟨b6,0,none⟩)) 25,.val (.int .i64 0),.val (.int .i64 4)] w K) (IfX (.bool (decide (x.1.k≠4))) (DoX prog (aJ 25 #[]) w5 (pk K) fun t45 w=>
 DoX prog (aC 25 (.pointer (some ⟨b6,0,none⟩)) t45) w (pk K) fun _ w=>
 RetX prog [.cell (.pointer (some ⟨b6,0,none⟩)) 25,.val (.int .i64 0),.val (.int .i64 3)] w K) (LoopX [.int .i64 0,.int .i64 0,(.int .i64 0)] w5 (fun vs3 W' N3=>∀_:Sg,fI (.string ⟨s.toArray⟩) (.int .i64 (24 - (n:Int))) (.pointer (some ⟨b6,0,none⟩)) (vs3.getD 0 undef) (vs3.getD 1 undef) (.pointer (some ⟨b9,0,none⟩)) vm (.pointer (some ⟨b11,0,none⟩)) (vs3.getD 2 undef) W' (MZ (fun vs w'=>∃(a':Int) (m:Nat) (o:Ob) (met:List (List UInt8)) (cs:List Value) (vk vc vm:Value) (N:Mem),vs=[.int .i64 a',.int .i64 0,.int .i64 0,vm]∧0≤a'∧a'≤s.length∧(met.length:Int)≤a'∧met.length+m=s.length+1 ∧
   Ps.dict s (Ps.obj s n) m a' o met=R∧M.le N∧OVs N.A N.w cs o.kids∧DictS o met ∧
   OwnS M.A w w' (Pw b9 b6 o vk vc vm met o.kids.length cs N)) (fun vs _=>s.length - n0 vs) [.int .i64 a',.int .i64 0,.int .i64 0,vm] w4) N3 K))):=by
  by_cases e3:x.1.k=0
  ·rw[Yh e3] at hdict;simp only[e3,Yj,i_t];exact fail 2 6 _ ho rfl rfl (fun _=>rfl) hle hdict
  rw[Yg e3] at hdict;simp only[Yl e3,i_f];by_cases e4:x.1.k=4
  case neg=>
   rw[Yh e4] at hdict;simp only[Yk e4,i_t];exact fail 2 6 _ ho rfl rfl (fun _=>rfl) hle hdict
  rw[Yg (by rw[e4];simp)] at hdict;simp only[e4,ne_eq,not_true,Yi,i_f];have hb:=hbd e1 e3;refine loop (fun vs w'=>∃i:Nat,vs=[.int .i64 0,.int .i64 0,.int .i64 i]∧i≤met.length∧(∀j (h:j < met.length),j < i→met[j]≠x.1.s)∧OwnS M.A w w' (tokE b11 x.1::Pw b9 b6 o vk vc vm met o.kids.length cs N)) (fun vs _=>met.length - (RowKit.intOf (vs.getD 2 undef)).toNat) ⟨0,rfl,by omega,fun j _ h=>by omega,ho⟩ ?_;clear ho;rintro vs w6 ⟨i,rfl,hi,hne,ho⟩ _;simp only[fI,gd,iN,dx,cx];rw[bY Yn (ho.slU 3 rfl)];simp only[rs];by_cases hlt:(i:Int) < (met.length:Int)
  ·have hi':i < met.length:=by omega
   simp only[Yk hlt,i_t];obtain⟨g,cap,_,ia,ld⟩:=key_row 3 ho rfl hi';refine quiet ?_;refine q_do _ (fun w=>ia w) (q_at _ (fun _ hb=>ld _ ((ho.grow hb).at_ 3 rfl)) (q_do _ (fun _=>bC ft4) (q_at _ (fun _ hb=>WR (ho.grow hb) 0 rfl) (SA ?_))));intro w7 hbw;have ho:=ho.grow hbw;by_cases he:met[i]=x.1.s
   ·rw[Yh (show x.1.s∈met from he▸YH hi')] at hdict;simp only[Yk he,i_t];exact fail 2 6 _ ho rfl rfl (fun _=>rfl) hle hdict
   ·simp only[Yl he,i_f];rw[aB (by omega) (by omega)];refine bO ⟨i+1,rfl,by omega,fun j hj hji=>?_,ho⟩ (by show met.length - Int.toNat ((i:Int)+1) < met.length - Int.toNat (i:Int);omega);rcases YS j i with h|h
    ·exact hne j hj h
    ·have:j=i:=by omega
     subst this;exact he
  have hi':i=met.length:=by omega
  simp only[Yl hlt,i_f];rw[bY Yn (ho.slU 3 rfl)];simp only[rs];have hnm:x.1.s ∉ met:=fun h=>by
   obtain⟨j,hj,he⟩:=ZC h;exact hne j hj (by omega) he
  rw[Yg hnm] at hdict;by_cases e5:met.length=8191
  ·rw[Yh e5] at hdict;simp only[show (met.length:Int)=8191 by omega,Yj,i_t];exact fail 2 6 _ ho rfl rfl (fun _=>rfl) hle hdict
  rw[Yg e5] at hdict;simp only[Yl (show ¬(met.length:Int)=8191 by omega),i_f,cL,tk_s ho 0 rfl];refine Fa x.1.s ho fun nb w7 ho=>?_;refine Mp 4 ho rfl (ho.sl 0 rfl 1 1 1 rfl) (by simp[Value.oneCell']) (by omega) fun vm' w8 ho=>?_;have ho:=ho.tail;have ho:OwnS M.A w w8 [tokE b11 x.1,obE b9 o vk vc,obE b6 ob0 nilS nilS,keyE vm' (met++[x.1.s]),keyE vk o.keys,kidE vc o.kids.length cs,.mem N]:=by
   have e:bB (met++[x.1.s])=bB met++[.string ⟨x.1.s.toArray⟩]:=by rw[nN];rfl
   rw[keyE,Yp,acQ,e];exact ho
  rw[Hw,tk_t ho 0 rfl];rw[aB (by omega) (by omega),show (24:Int) - n+1=25 - n by omega];refine eD ho 6 rfl (hsub x.1.t N w8 (ho.hasM 6 rfl)) ?_;rintro _ N2 w9 hle2 ⟨u,rfl,hu⟩ ho;have hbd2:=@Ps.Dv s n x.1.t;generalize Ps.obj s n x.1.t=e at *;obtain⟨xk,xc,xcs,rfl,hx⟩:=hu.open;simp only[ex];refine bN ho fun b14 w10 ho=>?_;refine aQ 0 hx.keys.one hx.kids.one ho rfl fun w11 ho=>?_;have ho:OwnS M.A w w11 [obE b14 e.1 xk xc,tokE b11 x.1,obE b9 o vk vc,obE b6 ob0 nilS nilS,keyE vm' (met++[x.1.s]),keyE vk o.keys,kidE vc o.kids.length cs,.mem N2]:=ho;simp only[rs];by_cases hz:e.2.2=0
  case neg=>
   simp only[hz,ne_eq,Yz,Yj,i_t];rw[Yh hz] at hdict;exact fail 3 7 _ ho rfl rfl (fun _=>rfl) (hle.trans hle2) hdict
  simp only[hz,ne_eq,not_true,Yi,i_f];rw[Yg (by rw[hz];simp)] at hdict;have hb2:=hbd2 hz;have hds2:=Pg (v:=e.1) hds hnm;refine join fun J hJ=>?_;have fin:∀{W:World} {vk' vc':Value} {cs':List Value},OVs N2.A N2.w cs' (Ps.join o x.1.s e.1).kids→OwnS M.A w W (Pw b9 b6 (Ps.join o x.1.s e.1) vk' vc' vm' (met++[x.1.s]) (Ps.join o x.1.s e.1).kids.length cs' N2)→J [] W:=by
   intro W vk' vc' cs' hov ho;refine hJ _ _ fun _=>?_;unfold nI;refine bO ⟨e.2.1,m,Ps.join o x.1.s e.1,met++[x.1.s],cs',vk',vc',vm',N2,rfl,by omega,hb2.2,by simp;omega,by simp;omega,hdict,hle.trans hle2,hov,hds2,ho⟩ (by show s.length - Int.toNat e.2.1 < s.length - Int.toNat a';omega)
  rw[cN,ob_k ho 0 rfl];simp only[rs];by_cases hk:e.1.k=0
  ·simp only[hk,ne_eq,not_true,Yi,i_f];have ej:Ps.join o x.1.s e.1=o:=by unfold Ps.join;rw[Yg (by rw[hk];simp)]
   rw[ej] at fin;exact fin (hall.le hle2) ho.tail.tail
  simp only[ne_eq,hk,Yz,Yj,i_t];have ej:Ps.join o x.1.s e.1=Vl.put o x.1.s e.1:=by unfold Ps.join;rw[Yh hk]
  rw[ej] at fin;rw[ob_v ho 2 rfl,tk_s ho 1 rfl,ob_v ho 0 rfl];have ho:OwnS M.A w w11 ([obE b14 e.1 xk xc,tokE b11 x.1,obE b9 o vk vc,obE b6 ob0 nilS nilS,keyE vm' (met++[x.1.s])]++([keyE vk o.keys,kidE vc o.kids.length cs]++[.mem N2])):=ho;have ho:=ho.front.pair;refine dS (PY o e.1 vk vc xk xc cs x.1.s N2.A N2.w w11 hds.len (hall.le hle2) hx.ov (by have:=hds.few;omega) hds.rise (fun h=>hnm (hds.sub _ h)) (ho.at_ 0 rfl)) ?_;rintro _ w12 ⟨vk',vc',cs',rfl,hov,ht⟩;have ho:=(ho.turn 0 rfl ht).split;have ho:OwnS M.A w w12 ([keyE vk' (Vl.put o x.1.s e.1).keys,kidE vc' (Vl.put o x.1.s e.1).kids.length cs']++([obE b14 e.1 xk xc,tokE b11 x.1,obE b9 o vk vc,obE b6 ob0 nilS nilS,keyE vm' (met++[x.1.s])]++[.mem N2])):=ho;have hvk':=bT (ho.at_ 0 rfl);have hvc':=bT (ho.at_ 1 rfl);have ho:=ho.front;refine aQ (o':=Vl.put o x.1.s e.1) 2 hvk' hvc' ho rfl fun w13 ho=>?_;exact fin hov ho.tail.tail
 by_cases e3:x.1.k=6
 ·have e4:¬x.1.s=[62,62]:=fun h=>e2 ⟨e3,h⟩;simp only[Yk e3,rs,cL,tk_s ho 0 rfl,Yl e4,cO,tk_k ho 0 rfl];exact on
 ·simp only[Yl e3,rs,g_un,cO,tk_k ho 0 rfl];exact on
end
section
open Eng Go.RowKit
theorem SM {T:TypeId}{xo yo:Operand}{a b:List UInt8}{w:World}:(mEq .eql T xo yo (.string ⟨a.toArray⟩) (.string ⟨b.toArray⟩)).run prog w=.ok (.value (.bool (decide (a=b)))) w:=by
 refine bW ?_;have e:(a==b)=decide (a=b):=by by_cases h:a=b<;>simp[h]
 simp[eqGuard,binOp,Op.stringOp,gA,e]
theorem M6 (b:Bool)(w:World):Ret prog 108 #[.bool b] w (obR (ob1 1 (if b then 1 else 0) 0 []) nilS nilS w):=by
 refine aO fun K hK=>yV ?_;unfold qN iN dx;refine bN (Own.start w) fun b2 w1 ho=>?_;cases b with
|true=>
  rw[i_t];have hb:∀{PK:PKT} {K:VWP},DoX prog (aJ 25 #[(0,(.int .i64 1)),(1,(.int .i64 1))]) w1 PK K=K (obV (ob1 1 1 0 []) nilS nilS) w1:=aU (by kernel_rfl);rw[hb];refine aQ 0 rfl rfl ho rfl fun w2 ho=>?_;exact uP ho (hK _ _ ⟨rfl,ho.done⟩)
|false=>
  rw[i_f];have hb:∀{PK:PKT} {K:VWP},DoX prog (aJ 25 #[(0,(.int .i64 1))]) w1 PK K=K (obV (ob1 1 0 0 []) nilS nilS) w1:=aU (by kernel_rfl);rw[hb];refine aQ 0 rfl rfl ho rfl fun w2 ho=>?_;exact uP ho (hK _ _ ⟨rfl,ho.done⟩)
theorem yB {A:Nat→Prop}{w:World}{k n g:Int}{s:List UInt8}:OV A w (obV (ob1 k n g s) nilS nilS) (ob1 k n g s):=ObAt.ov (o:=ob1 k n g s) ⟨SlA.nil _ _ _ _,SlA.nil _ _ _ _,OVs.nil⟩
theorem Ph (s:List UInt8)(hs:s.length≤1000000000):∀n:Nat,n≤24→RObj s n:=by
 intro n
 induction n with
|zero=>
  intro _ a M w hM;refine cM hM fun K hK=>jR ?_;unfold fK iN dx cx;refine bN (OwnS.memS hM) fun b6 w1 ho=>?_;refine HD ho (mK s a w1 (by omega)) fun b9 w2 ho=>?_;have fail:∀{W:World} (e:Int),OwnS M.A w W [tokE b9 (Lx.next s a).1,obE b6 ob0 nilS nilS,.mem M]→Ps.obj s 0 a=Ps.bad e →
    DoX prog (aJ 25 #[]) W (pk K) (fun t W=>DoX prog (aC 25 (.pointer (some ⟨b6,0,none⟩)) t) W (pk K) fun _ W=>RetX prog [.cell (.pointer (some ⟨b6,0,none⟩)) 25,.val (.int .i64 0),.val (.int .i64 e)] W K):=by
   intro W e ho he;refine oR 1 ho rfl fun w' ho=>?_;refine hK _ _ M _ 2 ho rfl M.le_refl ?_;rw[he];exact⟨_,rfl,eZ⟩
  rw[Ps.obj] at fail;generalize Lx.next s a=x at *
  simp only[rs];by_cases e1:x.2=0
  case neg=>
   simp only[e1,ne_eq,Yz,Yj,rs];exact fail _ ho (Yh e1)
  simp only[e1,ne_eq,not_true,Yi,rs,cO,tk_k ho 0 rfl];by_cases e2:x.1.k=0
  ·simp only[Yk e2,rs];exact fail 4 ho (by rw[Yg (by rw[e1];simp),Yh e2])
  simp only[Yl e2,rs,tk_v ho 0 rfl];refine aP ho (R:=fun v=>v=.bool (Ps.bG x.1)) (EB x.1 w2) ?_;rintro _ w3 rfl ho;cases e3:Ps.bG x.1 with
 |false=>
   simp only[rs,YJ,i_t];exact fail 3 ho (by rw[Yg (by rw[e1];simp),Yg e2,Yh e3])
 |true=>
   simp only[rs,YE,i_f,show decide ((24:Int) < 25 - ((0:Nat):Int))=true by decide];exact fail 7 ho (by rw[Yg (by rw[e1];simp),Yg e2,Yg (by rw[e3];simp)])
|succ n ih=>
  intro hn a M w hM;have ih:=ih (by omega);refine cM hM fun K hK=>jR ?_;unfold fK iN dx cx;refine bN (OwnS.memS hM) fun b6 w1 ho=>?_;refine HD ho (mK s a w1 (by omega)) fun b9 w2 ho=>?_;have fail:∀{W:World} (e:Int),OwnS M.A w W [tokE b9 (Lx.next s a).1,obE b6 ob0 nilS nilS,.mem M]→Ps.obj s (n+1) a=Ps.bad e →
    DoX prog (aJ 25 #[]) W (pk K) (fun t W=>DoX prog (aC 25 (.pointer (some ⟨b6,0,none⟩)) t) W (pk K) fun _ W=>RetX prog [.cell (.pointer (some ⟨b6,0,none⟩)) 25,.val (.int .i64 0),.val (.int .i64 e)] W K):=by
   intro W e ho he;refine oR 1 ho rfl fun w' ho=>?_;refine hK _ _ M _ 2 ho rfl M.le_refl ?_;rw[he];exact⟨_,rfl,eZ⟩
  have good:∀{W:World} {k m g t:Int} {z:List UInt8},OwnS M.A w W [tokE b9 (Lx.next s a).1,obE b6 (ob1 k m g z) nilS nilS,.mem M]→Ps.obj s (n+1) a=(ob1 k m g z,t,0) →
    RetX prog [.cell (.pointer (some ⟨b6,0,none⟩)) 25,.val (.int .i64 t),.val (.int .i64 0)] W K:=by
   intro W k m g t z ho he;refine yK (aX (ho.agg 1 rfl dM)) eF eF (hK _ _ M _ 2 ho rfl M.le_refl ?_);rw[he];exact⟨_,rfl,yB⟩
  have hbd:=@Lx.eE s a;have hfm:=@Lx.vL s a;have hob:Ps.obj s (n+1) a=_:=Ps.obj.eq_def s (n+1) a;simp only at hob;rw[hob] at fail good;generalize Lx.next s a=x at *
  simp only[rs];by_cases e1:x.2=0
  case neg=>
   simp only[e1,ne_eq,Yz,Yj,rs];exact fail _ ho (Yh e1)
  simp only[e1,ne_eq,not_true,Yi,rs,cO,tk_k ho 0 rfl];by_cases e2:x.1.k=0
  ·simp only[Yk e2,rs];exact fail 4 ho (by rw[Yg (by rw[e1];simp),Yh e2])
  have hbd:=hbd e1 e2;have hfm:=hfm e1;simp only[Yl e2,rs,tk_v ho 0 rfl];refine aP ho (R:=fun v=>v=.bool (Ps.bG x.1)) (EB x.1 w2) ?_;rintro _ w3 rfl ho;cases e3:Ps.bG x.1 with
 |false=>
   simp only[rs,YJ,i_t];exact fail 3 ho (by rw[Yg (by rw[e1];simp),Yg e2,Yh e3])
 |true=>
  have hdeep:¬(24:Int) < 25 - ((n+1:Nat):Int):=by omega
  simp only[rs,YE,i_f,Yl hdeep,cO,tk_k ho 0 rfl];simp only[Yg (show ¬x.2≠0 by rw[e1];simp),Yg e2,Yg (show ¬Ps.bG x.1=false by rw[e3];simp)] at fail good hob;have hgood:∀{W:World} {k m g t:Int} {z:List UInt8},x.1.k≠6→OwnS M.A w W [tokE b9 x.1,obE b6 (ob1 k m g z) nilS nilS,.mem M]→Ps.leaf s x.1=(ob1 k m g z,t,0) →
    RetX prog [.cell (.pointer (some ⟨b6,0,none⟩)) 25,.val (.int .i64 t),.val (.int .i64 0)] W K:=fun h ho he=>good ho (by rw[Yh h];exact he)
  have tail:∀{f:Nat} {args:Array Value} {k m g:Int} {z:List UInt8} {W:World} {PK1 PK2:PKT},x.1.k≠6→OwnS M.A w W [tokE b9 x.1,obE b6 ob0 nilS nilS,.mem M]→Ret prog f args W (obR (ob1 k m g z) nilS nilS W)→Ps.leaf s x.1=(ob1 k m g z,x.1.t,0) →
    CallX prog f args W PK1 fun t W=>(tokE b9 x.1).is W∧(DoX prog (aC 25 (.pointer (some ⟨b6,0,none⟩)) t) W PK2 fun _ W=>(tokE b9 x.1).is W∧(RetX prog [.cell (.pointer (some ⟨b6,0,none⟩)) 25,.val (.int .i64 x.1.t),.val (.int .i64 0)] W K)):=by
   intro f args k m g z W PK1 PK2 hk ho hr he;refine aP ho (R:=fun v=>v=obV (ob1 k m g z) nilS nilS) hr ?_;rintro _ W2 rfl ho;refine⟨ho.at_ 0 rfl,?_⟩;exact aQ 1 rfl rfl ho rfl fun W3 ho=>⟨ho.at_ 0 rfl,hgood hk ho he⟩
  have rdt:∀W,(tokE b9 x.1).is W→(aA 3 (.pointer (some ⟨b9,2,none⟩))).run prog W=.ok (.value (.int .i64 x.1.t)) W:=fun W h=>aL nInt (aV (T:=58) (cs:=tokC x.1) (i:=2) h rfl);have rdn:∀W,(tokE b9 x.1).is W→(aA 2 (.pointer (some ⟨b9,3,none⟩))).run prog W=.ok (.value (.int .i64 x.1.n)) W:=fun W h=>aL nI65 (aV (T:=58) (cs:=tokC x.1) (i:=3) h rfl);have rds:∀W,(tokE b9 x.1).is W→(aA 9 (.pointer (some ⟨b9,4,none⟩))).run prog W=.ok (.value (.string ⟨x.1.s.toArray⟩)) W:=fun W h=>aL nStr (aV (T:=58) (cs:=tokC x.1) (i:=4) h rfl);rcases hfm.kind with k0|k1|k2|k3|k4|k5|k6
  ·exact absurd k0 e2
  ·have hk6:x.1.k≠6:=by omega
   have hleaf:Ps.leaf s x.1=match Ps.ref s x.1 with
   |some p=>(.mk 8 x.1.n p.1 [] [] [],p.2,0)
   |none=>(.mk 2 x.1.n 0 [] [] [],x.1.t,0):=by rw[Ps.leaf,Yh k1];cases Ps.ref s x.1<;>rfl
   simp only[Yk k1,i_t,tk_v ho 0 rfl];refine aP ho (R:=fun v=>∃g e,v=.tuple #[.int .i64 g,.int .i64 e,.bool (Ps.ref s x.1).isSome]∧∀p,Ps.ref s x.1=some p→p=(g,e)) (Te s x.1 w3 (by omega)) ?_;rintro _ w4 ⟨g,e,rfl,hp⟩ ho;simp only[ex];cases hr:Ps.ref s x.1 with
  |some p=>
    have:=hp p hr;subst this;rw[hr] at hleaf;simp only[acN,i_t,oQ,tk_n ho 0 rfl];refine aP ho (R:=fun v=>v=obV (ob1 8 x.1.n g []) nilS nilS) (PR x.1.n g w4) ?_;rintro _ w5 rfl ho;refine aQ 1 rfl rfl ho rfl fun w6 ho=>?_;exact hgood hk6 ho hleaf
  |none=>
    rw[hr] at hleaf;simp only[acM,i_f];have ho:=ho.drew;refine⟨fun W=>(tokE b9 x.1).is W,ho.at_ 0 rfl,?_⟩;refine aZ _ (fun _=>bC ft3) (fG _ rdn (aZ _ (fun _=>bC ft2) (fG _ rdt ?_)));exact tail hk6 ho (ON x.1.n _) hleaf
  ·have hk6:x.1.k≠6:=by omega
   simp only[k2,show ¬((2:Int)=1) by decide,Yj,Yi,rs];have ho:=ho.drew;refine⟨fun W=>(tokE b9 x.1).is W,ho.at_ 0 rfl,?_⟩;refine aZ _ (fun _=>bC ft3) (fG _ rdn (aZ _ (fun _=>bC ft2) (fG _ rdt ?_)));exact tail hk6 ho (Nb x.1.n _) (by rw[Ps.leaf,Yg (by omega),Yh k2])
  ·have hk6:x.1.k≠6:=by omega
   simp only[k3,show ¬((3:Int)=1) by decide,show ¬((3:Int)=2) by decide,Yj,Yi,rs];have ho:=ho.drew;refine⟨fun W=>(tokE b9 x.1).is W,ho.at_ 0 rfl,?_⟩;refine aZ _ (fun _=>bC ft4) (fG _ rds (aZ _ (fun _=>bC ft2) (fG _ rdt ?_)));exact tail hk6 ho (PG x.1.s _) (by rw[Ps.leaf,Yg (by omega),Yg (by omega),Yh k3])
  ·have hk6:x.1.k≠6:=by omega
   simp only[k4,show ¬((4:Int)=1) by decide,show ¬((4:Int)=2) by decide,show ¬((4:Int)=3) by decide,Yj,Yi,rs];have ho:=ho.drew;refine⟨fun W=>(tokE b9 x.1).is W,ho.at_ 0 rfl,?_⟩;refine aZ _ (fun _=>bC ft4) (fG _ rds (aZ _ (fun _=>bC ft2) (fG _ rdt ?_)));exact tail hk6 ho (Pa x.1.s _) (by rw[Ps.leaf,Yg (by omega),Yg (by omega),Yg (by omega),Yh k4])
  ·have hk6:x.1.k≠6:=by omega
   simp only[k5,show ¬((5:Int)=1) by decide,show ¬((5:Int)=2) by decide,show ¬((5:Int)=3) by decide,show ¬((5:Int)=4) by decide,Yj,Yi,rs,cL,tk_s ho 0 rfl];by_cases hn:x.1.s=[110,117,108,108]
   ·simp only[Yk hn,i_t];have ho:=ho.drew;refine⟨fun W=>(tokE b9 x.1).is W,ho.at_ 0 rfl,?_⟩;refine aZ (obV Vl.ob0 nilS nilS) (fun _=>by kernel_rfl) (aZ _ (fun _=>bC ft2) (fG _ rdt ?_));refine aQ (o':=Vl.ob0) 1 rfl rfl ho rfl fun w5 ho=>⟨ho.at_ 0 rfl,?_⟩;exact hgood (k:=0) (m:=0) (g:=0) (z:=[]) hk6 ho (by rw[Ps.leaf,Yg (by omega),Yg (by omega),Yg (by omega),Yg (by omega),Yh (show x.1.s=Ps.nul from hn)];rfl)
   ·simp only[Yl hn,i_f];have ho:=ho.drew;refine⟨fun W=>(tokE b9 x.1).is W,ho.at_ 0 rfl,?_⟩;refine aZ _ (fun _=>bC ft4) (fG _ rds (aZ (.bool (decide (x.1.s=Ps.tru))) (fun _=>SM) (aZ _ (fun _=>bC ft2) (fG _ rdt ?_))));refine tail hk6 ho (M6 _ _) ?_;rw[Ps.leaf,Yg (by omega),Yg (by omega),Yg (by omega),Yg (by omega),Yg (show ¬x.1.s=Ps.nul from hn)];simp only[Yx]
  ·have hs2:x.1.s=[91]∨x.1.s=[60,60]:=by
    unfold Ps.bG at e3;rw[Yh k6] at e3;simpa using e3
   simp only[k6,show ¬((6:Int)=1) by decide,show ¬((6:Int)=2) by decide,show ¬((6:Int)=3) by decide,show ¬((6:Int)=4) by decide,show ¬((6:Int)=5) by decide,Yj,Yi,rs,cL,tk_s ho 0 rfl];rw[show (25:Int) - ((n+1:Nat):Int)=24 - (n:Int) by omega];have hge:=Lx.eW s a.toNat;have fin:∀{W:World} {N:Mem} {u:Value} {e:Ps.R},(if x.1.s=[91] then Ps.arr s (decide (n≠0)) (Ps.obj s n) (s.length+1) x.1.t [] else Ps.dict s (Ps.obj s n) (s.length+1) x.1.t Ps.dE [])=e→M.le N→OV N.A N.w u e.1→OwnS M.A w W [tokE b9 x.1,obE b6 ob0 nilS nilS,.mem N] →
     DoX prog (aC 25 (.pointer (some ⟨b6,0,none⟩)) u) W (pk K) fun _ w=>RetX prog [.cell (.pointer (some ⟨b6,0,none⟩)) 25,.val (.int .i64 e.2.1),.val (.int .i64 e.2.2)] w K:=by
    intro W N u e he hle hu ho;obtain⟨xk,xc,xcs,rfl,hx⟩:=hu.open;refine aQ 1 hx.keys.one hx.kids.one ho rfl fun W2 ho=>?_;refine yK (aX (ho.agg 1 rfl dM)) eF eF (hK _ _ N _ 2 ho rfl hle ?_);rw[hob,Yg (show ¬x.1.k≠6 by rw[k6];simp),he];exact⟨_,rfl,hx.ov⟩
   rcases hs2 with h2|h2
   ·simp only[Yk h2,i_t,Hw,tk_t ho 0 rfl];refine eD ho 2 rfl (OL s n (by omega) hs ih x.1.t (by omega) (by omega) M w3 (ho.hasM 2 rfl)) ?_;rintro _ N w4 hle ⟨u,rfl,hu⟩ ho;simp only[ex];exact fin (Yh h2) hle hu ho
   ·have h91:¬x.1.s=[91]:=by rw[h2];decide
    simp only[Yl h91,i_f,Hw,tk_t ho 0 rfl];refine eD ho 2 rfl (Mj s n (by omega) hs ih x.1.t (by omega) (by omega) M w3 (ho.hasM 2 rfl)) ?_;rintro _ N w4 hle ⟨u,rfl,hu⟩ ho;simp only[ex];exact fin (Yg h91) hle hu ho
theorem En (s:List UInt8)(a:Int)(hs:s.length≤1000000000)(M:Mem)(w:World)(hM:M.has w):RetM prog 31 #[.string ⟨s.toArray⟩,.int .i64 a] M w (objR (Ps.object s a)):=by
 refine cM hM fun K hK=>uD ?_;unfold mT iN dx gfx efx cx;refine bN (OwnS.memS hM) fun b4 w1 ho=>?_;have fail:a < 0∨(s.length:Int) < a→DoX prog (aJ 25 #[]) w1 (pk K) (fun t W=>DoX prog (aC 25 (.pointer (some ⟨b4,0,none⟩)) t) W (pk K) fun _ W=>RetX prog [.cell (.pointer (some ⟨b4,0,none⟩)) 25,.val (.int .i64 0),.val (.int .i64 1)] W K):=by
  intro h;refine oR 0 ho rfl fun w' ho=>?_;refine hK _ _ M _ 1 ho rfl M.le_refl ?_;rw[Ps.object,Yh h];exact⟨_,rfl,eZ⟩
 by_cases h1:a < 0
 ·simp only[rs,Yk h1,g_un];exact fail (.inl h1)
 by_cases h2:(s.length:Int) < a
 ·simp only[rs,Yl h1,bF Ym,Yk h2,g_un];exact fail (.inr h2)
 simp only[rs,Yl h1,bF Ym,Yl h2,g_un];refine eD ho 1 rfl (Ph s hs 24 (by omega) a M w1 (ho.hasM 1 rfl)) ?_;rintro _ N w2 hle ⟨u,rfl,hu⟩ ho;obtain⟨xk,xc,xcs,rfl,hx⟩:=hu.open;simp only[ex];refine aQ 0 hx.keys.one hx.kids.one ho rfl fun w3 ho=>?_;refine yK (aX (ho.agg 0 rfl dM)) eF eF (hK _ _ N _ 1 ho rfl hle ?_);rw[Ps.object,Yg (by omega)];exact⟨_,rfl,hx.ov⟩
end
section
open Eng Go.RowKit
namespace Eng
theorem Ent.below {e:Ent}{w w':World}(h:e.is w)(hb:Below w.heap.size w w'):e.is w':=e.keep h fun k hk=>hb.block k (e.lt h k hk)
section
variable {S:Nat→Prop}{P:Program}{w w0:World}{L:List Ent}{PK:PKT}{K:VWP}
theorem c_rm {f:Nat}{args:Array Value}{e e':Ent}{M:Mem}{ok:Prop}{R:Value→Mem→Prop}{c:List PanicEntry}(ho:OwnS S w0 w L)(i:Nat)(hi:L[i]?=some (.two e (.mem M)))(h:Lent P f args e M w ok e' R c)
  (kr:∀v N w',ok→M.le N→R v N→OwnS S w0 w' (L.set i (.two e' (.mem N)))→K v w') (kp:∀e2 w',¬ok→OwnS S w0 w' (L.set i (.two e2 (.mem M)))→PK c w'):CallX P f args w PK K:=by
 by_cases hk:ok
 ·exact dS (h.ret hk) fun v w' ⟨N,hle,hr,ht⟩=>kr v N w' hk hle hr (ho.turn i hi ht)
 ·exact Uc (h.pan hk) fun c' w' ⟨hc,e2,ht⟩=>by subst hc;exact kp e2 w' hk (ho.turn i hi ht)
end
end Eng
def rdC (s:List UInt8)(a:Int):List Value:=[.string ⟨s.toArray⟩,.int .i64 a]
abbrev rdE (b:Nat)(s:List UInt8)(a:Int):Ent:=.cells b (rdC s a) 130
abbrev rmE (b:Nat)(s:List UInt8)(a:Int)(M:Mem):Ent:=.two (rdE b s a) (.mem M)
abbrev rdP (b:Nat):Value:=.pointer (some ⟨b,0,none⟩)
def sZ (e:Int):PanicEntry:={ v:=.iface 198 (.int .i64 e),recovered:=false }
theorem fr0:fOff prog 130 0=some 0:=by kernel_rfl
theorem fr1:fOff prog 130 1=some 1:=by kernel_rfl
theorem nfW:mH prog 198=true:=by kernel_rfl
section
variable {w:World}{PK:PKT}{K:VWP}{S:Nat→Prop}{w0:World}{L:List Ent}
theorem X7 {b:Nat}:DoX prog (mFA 130 (.pointer (some ⟨b,0,none⟩)) 0) w PK K=K (.pointer (some ⟨b,0,none⟩)) w:=dJ fr0
theorem Wa {b:Nat}:DoX prog (mFA 130 (.pointer (some ⟨b,0,none⟩)) 1) w PK K=K (.pointer (some ⟨b,1,none⟩)) w:=dJ fr1
theorem rd_s {b:Nat}{s:List UInt8}{a:Int}(h:(rdE b s a).is w):DoX prog (aA 9 (.pointer (some ⟨b,0,none⟩))) w PK K=K (.string ⟨s.toArray⟩) w:=bE qQ (aV (T:=130) (cs:=rdC s a) (i:=0) h rfl)
theorem Xs {b:Nat}{s:List UInt8}{a:Int}(h:(rdE b s a).is w):(aA 9 (.pointer (some ⟨b,0,none⟩))).run prog w=.ok (.value (.string ⟨s.toArray⟩)) w:=aL qQ (aV (T:=130) (cs:=rdC s a) (i:=0) h rfl)
theorem WN {b:Nat}{s:List UInt8}{a:Int}(h:(rdE b s a).is w):(aA 3 (.pointer (some ⟨b,1,none⟩))).run prog w=.ok (.value (.int .i64 a)) w:=aL kV (aV (T:=130) (cs:=rdC s a) (i:=1) h rfl)
theorem UC (i:Nat){b:Nat}{s:List UInt8}{a a':Int}(ho:OwnS S w0 w L)(hi:L[i]?=some (rdE b s a))(k:∀w',OwnS S w0 w' (L.set i (rdE b s a'))→K undef w'):DoX prog (aC 3 (.pointer (some ⟨b,1,none⟩)) (.int .i64 a')) w PK K:=
 aW i ho hi (by kernel_rfl) rfl (show 1 < 2 by omega) k
theorem throw {e:Int}{K2:Value→VWP}{PK2:PKT}(h:PK2 [sZ e] w):DoX prog (sP 198 (.int .i64 e)) w PK fun t w=>DoX prog (jP t) w PK2 (K2 t):=by
 rw[JU nfW,Kk];exact h
end
theorem Oi (b:Nat)(s:List UInt8)(a at_:Int)(w:World)(hs:s.length≤1099511627776)(hr:(rdE b s a).is w) :
  Ret prog 246 #[rdP b,.int .i64 at_] w (fun v w'=>v=.tuple #[tokV (Lx.next s at_).1,.bool (decide ((Lx.next s at_).2=0))]∧Below w.heap.size w w'):=by
 refine aO fun K hK=>Aj ?_;unfold qY iN dx cx;refine gJ (Own.start w) fun b4 w1 ho=>?_;rw[TX,X7,rd_s (Ent.below (e:=rdE b s a) hr ho.done)];refine HD ho (B9 s at_ w1 hs) fun b6 w2 ho=>?_;rw[tk_v ho 0 rfl];simp only[rs];refine jS 1 ho rfl fun w3 ho=>?_;exact yF (aX (ho.agg 1 rfl Fw)) eF (hK _ _ ⟨rfl,ho.done⟩)
def Has (s:List UInt8)(a:Int):Prop:=(Lx.next s a).2=0∧(Lx.next s a).1.k≠0
def tR (s:List UInt8)(a:Int):Int:=if (Lx.next s a).2≠0 then (Lx.next s a).2 else 4
theorem DF (b:Nat)(s:List UInt8)(a:Int)(M:Mem)(w:World)(hs:s.length≤1099511627776)(hr:(rmE b s a M).is w) :
  Lent prog 159 #[rdP b] (rdE b s a) M w (Has s a) (rdE b s (Lx.next s a).1.t) (fun v N=>v=tokV (Lx.next s a).1) [sZ (tR s a)]:=by
 refine Be (fun K ho hret hpan=>yL ?_) hr;unfold iU dx;refine gJ ho fun b2 w1 ho=>?_;have two:∀{W:World} {b3:Nat},OwnS (rmE b s a M).blk w W [tokE b3 (Lx.next s a).1,tokE b2 Lx.none_,rdE b s a,.mem M]→dY (rdP b) (.pointer (some ⟨b2,0,none⟩)) (.pointer (some ⟨b3,0,none⟩)) (.int .i64 (Lx.next s a).2) W K:=by
  intro W b3 ho;have bad:∀{e:Int},¬Has s a→tR s a=e→K (.panicked [sZ e]) W:=by
   intro e hn he;subst he;exact hpan hn (rdE b s a) M W _ (ho.tail.tail) M.le_refl
  unfold Has tR at *;generalize Lx.next s a=x at *
  unfold dY iN dx;refine join fun J hJ=>?_;simp only[rs];by_cases e1:x.2=0
  case neg=>
   simp only[e1,ne_eq,Yz,Yj,i_t];exact throw (bad (fun h=>e1 h.1) (Yh e1))
  simp only[e1,ne_eq,not_true,Yi,i_f];refine hJ _ _ fun _=>?_;unfold mN iN dx;refine join fun J hJ=>?_;rw[cO,tk_k ho 0 rfl];simp only[rs];by_cases e2:x.1.k=0
  ·simp only[e2,Yj,i_t];exact throw (bad (fun h=>h.2 e2) (Yg (by rw[e1];simp)))
  simp only[e2,Yi,i_f];refine hJ _ _ fun _=>?_;unfold oB dx;rw[Hw,tk_t ho 0 rfl,TX,Wa];refine UC 2 ho rfl fun w2 ho=>?_;have ho:OwnS (rmE b s a M).blk w w2 [tokE b3 x.1,tokE b2 Lx.none_,rdE b s x.1.t,.mem M]:=ho;rw[tk_v ho 0 rfl];refine jS 1 ho rfl fun w3 ho=>?_;refine eG (aX (ho.agg 1 rfl Fw)) ?_;have ho:OwnS (rmE b s a M).blk w w3 ([tokE b3 x.1,tokE b2 x.1]++([rdE b s x.1.t,.mem M]++[])):=ho;exact hret ⟨e1,e2⟩ _ M w3 _ ho.front M.le_refl rfl
 have ho:=ho.drew;refine⟨fun W=>(rdE b s a).is W,ho.at_ 1 rfl,?_⟩;refine aZ _ (fun _=>eY) (aZ _ (fun _=>bC fr0) (fG _ (fun W h=>Xs h) ?_));refine aZ _ (fun _=>eY) (aZ _ (fun _=>bC fr1) (fG _ (fun W h=>WN h) ?_));refine⟨?_,?_⟩
 ·refine aP ho (R:=fun v=>v=tokR (Lx.next s a)) (B9 s a _ hs) ?_;rintro _ w2 rfl ho;refine aZ _ (fun _=>vZ) (aZ _ (fun _=>wV) ?_);refine gJ ho fun b3 w3 ho=>⟨ho.at_ 2 rfl,?_⟩;refine jS 0 ho rfl fun w4 ho=>?_;exact two ho
 ·refine gJ ho fun b3 w3 ho=>⟨ho.at_ 2 rfl,?_⟩;refine aP ho (R:=fun v=>v=tokR (Lx.next s a)) (B9 s a _ hs) ?_;rintro _ w2 rfl ho;refine aZ _ (fun _=>vZ) (aZ _ (fun _=>wV) ?_);refine jS 0 ho rfl fun w4 ho=>?_;exact two ho
end
end Go.Proofs.YtkejpieaafeblaaGreatDoor
