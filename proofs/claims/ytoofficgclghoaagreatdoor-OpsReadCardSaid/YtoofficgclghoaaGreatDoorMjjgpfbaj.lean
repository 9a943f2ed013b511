/- Texts that go together: SRef03 LxR SHead SRef17 HdA LxS LxT LxU LxV LxW LxX LxY LxZ LxAA LxAB LxAC SLaw04 PlT LxAD SLaw03 LxAE HdB HdC SLaw17 HdD SRef55 ScA ObJ SWrite ObK ObL ObM ObN ObO SLaw07 ObP ObQ ObR Plain05B Plain05C Plain05D Plain06 EngX EngY SSlc SlcA SMake SIdx OcIdx MkA SMake5 MkB MkC LxAF LxAG SLaw04B PlW. -/
import Derived.Test.YtoofficgclghoaaGreatDoorRows
import Derived.Lib.SmallJoins
import Derived.Sort.Walk0
import Derived.Laws.CopyRow
import Derived.Lib.AppendZerosOnto
import Derived.Lib.SliceRun
import Derived.Lib.Overlaps
import Derived.Laws.Externs
import Derived.Test.YtoofficgclghoaaGreatDoorMlengaipi
import Derived.Test.YtoofficgclghoaaGreatDoorMdldongdl
import Derived.Test.YtoofficgclghoaaGreatDoorMjoallmgc
set_option linter.defProp false
set_option linter.unusedSimpArgs false
set_option linter.unusedVariables false
set_option maxRecDepth 20000
open Go.Proofs.Tryz (prog)
namespace Go.Proofs.YtoofficgclghoaaGreatDoor
section
open Eng
def nH (t0 t1:Value)(w:World)(N1:List Value→World→Prop)(K:Ending→World→Prop):Prop:=
 DoX prog (mB .len #[9] 3 #[false] #[t0]) w (pk K) fun t7 w=>
 DoX prog (mBin .lss 3 t1 t7) w (pk K) fun t8 w=>
 GDo t8 true (fun E=>E t0 w) w fun t10 w=>
 GDo t8 true (fun E=>E t1 w) w fun t11 w=>
 GDo t8 true (fun E=>DoX prog (mIx 9 t10 t11) w (pk K) E) w fun t12 w=>
 GDo t8 true (fun E=>CallX prog 111 #[t12] w (pk K) E) w fun t13 w=>
 DoX prog (aL t8 t13 (.bool false)) w (pk K) fun t14 w=>
 IfX t14 (DoX prog (mBin .add 3 t1 (.int .i64 1)) w (pk K) fun t16 w=>
 N1 [t16] w) (K (.returned t1) w)
def jG (t0 t1:Value)(w:World)(K:Ending→World→Prop):Prop:=
 LoopX [t1] w (fun vs1 w N1=>∀_:Sg,nH t0 (vs1.getD 0 undef) w N1 K)
theorem xC (t0 t1:Value)(w:World)(K:Ending→World→Prop):wpX prog 18 [] [(1,[1])] none (aK Tryz.f67) (topQ prog [.tmp 4] K) (aJ [t0,t1]) [] w=jG t0 t1 w K:=by kernel_rfl
theorem xW {t0 t1:Value}{w:World}{K:Ending→World→Prop}(h:jG t0 t1 w K):Calls prog 67 #[t0,t1] w K:=
 aA Tryz.func67 rfl rfl rfl rfl (Eq.mpr (xC t0 t1 w K) h)
def iU (t0 t3:Value)(w:World)(N2:List Value→World→Prop)(K:Ending→World→Prop):Prop:=
 DoX prog (mB .len #[9] 3 #[false] #[t0]) w (pk K) fun t20 w=>
 DoX prog (mBin .lss 3 t3 t20) w (pk K) fun t21 w=>
 IfX t21 (DoX prog (mIx 9 t0 t3) w (pk K) fun t26 w=>
 DoX prog (mBin .lss 5 t26 (.int .u8 48)) w (pk K) fun t27 w=>
 GDo t27 false (fun E=>E t0 w) w fun t29 w=>
 GDo t27 false (fun E=>E t3 w) w fun t30 w=>
 GDo t27 false (fun E=>DoX prog (mIx 9 t29 t30) w (pk K) E) w fun t31 w=>
 GDo t27 false (fun E=>DoX prog (mBin .gtr 5 t31 (.int .u8 57)) w (pk K) E) w fun t32 w=>
 DoX prog (aL t27 (.bool true) t32) w (pk K) fun t33 w=>
 IfX t33 (K (.returned (.bool false)) w) (DoX prog (mBin .add 3 t3 (.int .i64 1)) w (pk K) fun t23 w=>
 N2 [t23] w)) (DoX prog (mEq .neq 9 (.tmp 34) (.const (.string ⟨#[]⟩)) t0 (.string ⟨#[]⟩)) w (pk K) fun t35 w=>
 K (.returned t35) w)
def iV (t0:Value)(w:World)(K:Ending→World→Prop):Prop:=
 LoopX [(.int .i64 0)] w (fun vs2 w N2=>∀_:Sg,iU t0 (vs2.getD 0 undef) w N2 K)
def eD (t0:Value)(w:World)(K:Ending→World→Prop):Prop:=
 JoinX (fun J1=>
 DoX prog (mEq .neq 9 (.tmp 4) (.const (.string ⟨#[]⟩)) t0 (.string ⟨#[]⟩)) w (pk K) fun t5 w=>
 GDo t5 true (fun E=>E t0 w) w fun t7 w=>
 GDo t5 true (fun E=>DoX prog (mIx 9 t7 (.int .i64 0)) w (pk K) E) w fun t8 w=>
 GDo t5 true (fun E=>DoX prog (mEq .eql 5 (.tmp 8) (.const (.int .u8 43)) t8 (.int .u8 43)) w (pk K) E) w fun t9 w=>
 GDo t5 true (fun E=>E t9 w) w fun t10 w=>
 GDo t10 false (fun E=>E t0 w) w fun t11 w=>
 GDo t10 false (fun E=>DoX prog (mIx 9 t11 (.int .i64 0)) w (pk K) E) w fun t12 w=>
 GDo t10 false (fun E=>DoX prog (mEq .eql 5 (.tmp 12) (.const (.int .u8 45)) t12 (.int .u8 45)) w (pk K) E) w fun t13 w=>
 GDo t5 true (fun E=>DoX prog (aL t10 (.bool true) t13) w (pk K) E) w fun t14 w=>
 DoX prog (aL t5 t14 (.bool false)) w (pk K) fun t15 w=>
 IfX t15 (DoX prog (bT 9 t0 (some (.int .i64 1)) none none) w (pk K) fun t17 w=>
 J1 [t17] w) (J1 [t0] w)) (fun vs1 w=>∀_:Sg,iV (vs1.getD 0 undef) w K)
theorem qN (t0:Value)(w:World)(K:Ending→World→Prop):wpX prog 36 [(3,[0])] [(4,[3])] none (aK Tryz.f116) (topQ prog [.tmp 2] K) (aJ [t0]) [] w=eD t0 w K:=by kernel_rfl
theorem qM {t0:Value}{w:World}{K:Ending→World→Prop}(h:eD t0 w K):Calls prog 116 #[t0] w K:=
 aA Tryz.func116 rfl rfl rfl rfl (Eq.mpr (qN t0 w K) h)
def eH (t4:Value)(w:World)(K:Ending→World→Prop):Prop:=
 K (.returned (.tuple #[t4,(.int .i64 0)])) w
def kR (t4 t5:Value)(w:World)(N1:List Value→World→Prop)(K:Ending→World→Prop):Prop:=
 DoX prog (mBin .add 3 t5 (.int .i64 1)) w (pk K) fun t11 w=>
 N1 [t4,t11] w
def kI (t0 t4 t5:Value)(w:World)(N1:List Value→World→Prop)(K:Ending→World→Prop):Prop:=
 DoX prog (mB .len #[9] 3 #[false] #[t0]) w (pk K) fun t8 w=>
 DoX prog (mBin .lss 3 t5 t8) w (pk K) fun t9 w=>
 IfX t9 (JoinX (fun J2=>
 DoX prog (mIx 9 t0 t5) w (pk K) fun t14 w=>
 DoX prog (mEq .eql 5 (.tmp 14) (.const (.int .u8 43)) t14 (.int .u8 43)) w (pk K) fun t15 w=>
 GDo t15 false (fun E=>E t0 w) w fun t17 w=>
 GDo t15 false (fun E=>E t5 w) w fun t18 w=>
 GDo t15 false (fun E=>DoX prog (mIx 9 t17 t18) w (pk K) E) w fun t19 w=>
 GDo t15 false (fun E=>DoX prog (mEq .eql 5 (.tmp 19) (.const (.int .u8 45)) t19 (.int .u8 45)) w (pk K) E) w fun t20 w=>
 DoX prog (aL t15 (.bool true) t20) w (pk K) fun t21 w=>
 IfX t21 (J2 [t4] w) (DoX prog (mBin .mul 2 (.int .i64 10) t4) w (pk K) fun t23 w=>
 DoX prog (mIx 9 t0 t5) w (pk K) fun t26 w=>
 DoX prog (cP 5 2 t26) w (pk K) fun t27 w=>
 DoX prog (mBin .add 2 t23 t27) w (pk K) fun t28 w=>
 DoX prog (mBin .sub 2 t28 (.int .i64 48)) w (pk K) fun t29 w=>
 DoX prog (mBin .gtr 2 t29 (.int .i64 2147483647)) w (pk K) fun t31 w=>
 IfX t31 (K (.returned (.tuple #[(.int .i64 0),(.int .i64 2)])) w) (J2 [t29] w))) (fun vs2 w=>∀_:Sg,kR (vs2.getD 0 undef) t5 w N1 K)) (JoinX (fun J3=>
 DoX prog (mIx 9 t0 (.int .i64 0)) w (pk K) fun t33 w=>
 DoX prog (mEq .eql 5 (.tmp 33) (.const (.int .u8 45)) t33 (.int .u8 45)) w (pk K) fun t34 w=>
 IfX t34 (DoX prog (mUn .neg t4) w (pk K) fun t36 w=>
 J3 [t36] w) (J3 [t4] w)) (fun vs3 w=>∀_:Sg,eH (vs3.getD 0 undef) w K))
def fK (t0:Value)(w:World)(K:Ending→World→Prop):Prop:=
 LoopX [(.int .i64 0),(.int .i64 0)] w (fun vs1 w N1=>∀_:Sg,kI t0 (vs1.getD 0 undef) (vs1.getD 1 undef) w N1 K)
theorem uI (t0:Value)(w:World)(K:Ending→World→Prop):wpX prog 38 [(4,[4]),(11,[4])] [(3,[4,5])] none (aK Tryz.f117) (topQ prog [.tmp 2,.tmp 3] K) (aJ [t0]) [] w=fK t0 w K:=by kernel_rfl
theorem tB {t0:Value}{w:World}{K:Ending→World→Prop}(h:fK t0 w K):Calls prog 117 #[t0] w K:=
 aA Tryz.func117 rfl rfl rfl rfl (Eq.mpr (uI t0 w K) h)
def kE (t0 t3:Value)(w:World)(N1:List Value→World→Prop)(K:Ending→World→Prop):Prop:=
 DoX prog (mB .len #[9] 3 #[false] #[t0]) w (pk K) fun t6 w=>
 DoX prog (mBin .lss 3 t3 t6) w (pk K) fun t7 w=>
 IfX t7 (DoX prog (mIx 9 t0 t3) w (pk K) fun t12 w=>
 DoX prog (mEq .eql 5 (.tmp 12) (.const (.int .u8 46)) t12 (.int .u8 46)) w (pk K) fun t13 w=>
 IfX t13 (K (.returned (.bool true)) w) (DoX prog (mBin .add 3 t3 (.int .i64 1)) w (pk K) fun t9 w=>
 N1 [t9] w)) (K (.returned (.bool false)) w)
def fY (t0:Value)(w:World)(K:Ending→World→Prop):Prop:=
 LoopX [(.int .i64 0)] w (fun vs1 w N1=>∀_:Sg,kE t0 (vs1.getD 0 undef) w N1 K)
theorem sZ (t0:Value)(w:World)(K:Ending→World→Prop):wpX prog 14 [] [(2,[3])] none (aK Tryz.f118) (topQ prog [.tmp 2] K) (aJ [t0]) [] w=fY t0 w K:=by kernel_rfl
theorem sK {t0:Value}{w:World}{K:Ending→World→Prop}(h:fY t0 w K):Calls prog 118 #[t0] w K:=
 aA Tryz.func118 rfl rfl rfl rfl (Eq.mpr (sZ t0 w K) h)
def iH (t0:Value)(w:World)(K:Ending→World→Prop):Prop:=
 DoX prog (aN 53) w (pk K) fun t2 w=>
 CallX prog 116 #[t0] w (pk K) fun t7 w=>
 DoX prog (mUn .not t7) w (pk K) fun t8 w=>
 IfX t8 (DoX prog (aG 53 #[]) w (pk K) fun t9 w=>
 DoX prog (aD 53 t2 t9) w (pk K) fun _ w=>
 RetX prog [.cell t2 53,.val (.int .i64 5)] w K) (CallX prog 117 #[t0] w (pk K) fun t12 w=>
 DoX prog (mExt t12 0) w (pk K) fun t13 w=>
 DoX prog (mExt t12 1) w (pk K) fun t14 w=>
 DoX prog (aG 53 #[(0,(.int .i64 1)),(3,t13)]) w (pk K) fun t16 w=>
 DoX prog (aD 53 t2 t16) w (pk K) fun _ w=>
 RetX prog [.cell t2 53,.val t14] w K)
theorem wQ (t0:Value)(w:World)(K:Ending→World→Prop):wpX prog 18 [] [] none (aK Tryz.f115) (topQ prog [.cell 2 53,.tmp 3] K) (aJ [t0]) [] w=iH t0 w K:=by kernel_rfl
theorem wR {t0:Value}{w:World}{K:Ending→World→Prop}(h:iH t0 w K):Calls prog 115 #[t0] w K:=
 aA Tryz.func115 rfl rfl rfl rfl (Eq.mpr (wQ t0 w K) h)
def mE (t0 t2:Value)(w:World)(K:Ending→World→Prop):Prop:=
 DoX prog (mB .len #[9] 3 #[false] #[t0]) w (pk K) fun t42 w=>
 DoX prog (mBin .gtr 3 t42 (.int .i64 127)) w (pk K) fun t43 w=>
 IfX t43 (DoX prog (aG 53 #[]) w (pk K) fun t44 w=>
 DoX prog (aD 53 t2 t44) w (pk K) fun _ w=>
 RetX prog [.cell t2 53,.val (.int .i64 5)] w K) (DoX prog (aG 53 #[(0,(.int .i64 5)),(4,t0)]) w (pk K) fun t46 w=>
 DoX prog (aD 53 t2 t46) w (pk K) fun _ w=>
 RetX prog [.cell t2 53,.val (.int .i64 0)] w K)
def iG (t0:Value)(w:World)(K:Ending→World→Prop):Prop:=
 DoX prog (aN 53) w (pk K) fun t2 w=>
 DoX prog (mB .len #[9] 3 #[false] #[t0]) w (pk K) fun t9 w=>
 DoX prog (mBin .gtr 3 t9 (.int .i64 508)) w (pk K) fun t10 w=>
 IfX t10 (CallX prog 115 #[t0] w (pk K) fun t12 w=>
 DoX prog (mExt t12 0) w (pk K) fun t13 w=>
 DoX prog (mExt t12 1) w (pk K) fun t14 w=>
 DoX prog (aD 53 t2 t13) w (pk K) fun _ w=>
 RetX prog [.cell t2 53,.val t14] w K) (CallX prog 116 #[t0] w (pk K) fun t16 w=>
 IfX t16 (CallX prog 117 #[t0] w (pk K) fun t19 w=>
 DoX prog (mExt t19 0) w (pk K) fun t20 w=>
 DoX prog (mExt t19 1) w (pk K) fun t21 w=>
 DoX prog (aG 53 #[(0,(.int .i64 1)),(3,t20)]) w (pk K) fun t23 w=>
 DoX prog (aD 53 t2 t23) w (pk K) fun _ w=>
 RetX prog [.cell t2 53,.val t21] w K) (JoinX (fun J1=>
 CallX prog 118 #[t0] w (pk K) fun t26 w=>
 IfX t26 (CallX prog 119 #[t0] w (pk K) fun t29 w=>
 DoX prog (mExt t29 0) w (pk K) fun t30 w=>
 DoX prog (mExt t29 1) w (pk K) fun t31 w=>
 DoX prog (mEq .eql 24 (.tmp 32) (.const (.int .i64 0)) t31 (.int .i64 0)) w (pk K) fun t33 w=>
 GDo t33 false (fun E=>E t31 w) w fun t35 w=>
 GDo t33 false (fun E=>DoX prog (mEq .eql 24 (.tmp 35) (.const (.int .i64 2)) t35 (.int .i64 2)) w (pk K) E) w fun t36 w=>
 DoX prog (aL t33 (.bool true) t36) w (pk K) fun t37 w=>
 IfX t37 (DoX prog (aG 53 #[(0,(.int .i64 2)),(3,t30)]) w (pk K) fun t39 w=>
 DoX prog (aD 53 t2 t39) w (pk K) fun _ w=>
 RetX prog [.cell t2 53,.val t31] w K) (J1 [(.int .i64 0)] w)) (J1 [(.int .i64 0)] w)) (fun vs1 w=>∀_:Sg,mE t0 t2 w K)))
theorem vZ (t0:Value)(w:World)(K:Ending→World→Prop):wpX prog 47 [(10,[3])] [] none (aK Tryz.f71) (topQ prog [.cell 2 53,.tmp 3] K) (aJ [t0]) [] w=iG t0 w K:=by kernel_rfl
theorem vY {t0:Value}{w:World}{K:Ending→World→Prop}(h:iG t0 w K):Calls prog 71 #[t0] w K:=
 aA Tryz.func71 rfl rfl rfl rfl (Eq.mpr (vZ t0 w K) h)
def lX (t4 t5 t6:Value)(w:World)(N1:List Value→World→Prop)(K:Ending→World→Prop):Prop:=
 DoX prog (aP 66 1 #[(0,t6)]) w (pk K) fun t57 w=>
 DoX prog (mB .append #[66,66] 66 #[false,false] #[t4,t57]) w (pk K) fun t58 w=>
 DoX prog (mBin .add 3 t5 (.int .i64 1)) w (pk K) fun t14 w=>
 N1 [t58,t14] w
def lU (t0 t4 t5:Value)(w:World)(N1:List Value→World→Prop)(K:Ending→World→Prop):Prop:=
 DoX prog (mB .len #[9] 3 #[false] #[t0]) w (pk K) fun t11 w=>
 DoX prog (mBin .lss 3 t5 t11) w (pk K) fun t12 w=>
 IfX t12 (DoX prog (mIx 9 t0 t5) w (pk K) fun t17 w=>
 JoinX (fun J2=>
 DoX prog (mEq .eql 5 (.tmp 18) (.const (.int .u8 35)) t17 (.int .u8 35)) w (pk K) fun t19 w=>
 IfX t19 (DoX prog (mBin .add 3 t5 (.int .i64 2)) w (pk K) fun t21 w=>
 DoX prog (mB .len #[9] 3 #[false] #[t0]) w (pk K) fun t23 w=>
 DoX prog (mBin .geq 3 t21 t23) w (pk K) fun t24 w=>
 IfX t24 (K (.returned (.tuple #[(.string ⟨#[]⟩),(.int .i64 3)])) w) (QuietX w (fun C3=>
 QDo prog C3 (mBin .add 3 t5 (.int .i64 1)) fun t27=>
 QDo prog C3 (mIx 9 t0 t27) fun t28=>
 QCall prog C3 112 #[t28] fun t29=>
 QDo prog C3 (mBin .add 3 t5 (.int .i64 2)) fun t32=>
 QDo prog C3 (mIx 9 t0 t32) fun t33=>
 QCall prog C3 112 #[t33] fun t34=>
 ∀w,C3 w →
 DoX prog (mBin .lss 3 t29 (.int .i64 0)) w (pk K) fun t36 w=>
 GDo t36 false (fun E=>E t34 w) w fun t38 w=>
 GDo t36 false (fun E=>DoX prog (mBin .lss 3 t38 (.int .i64 0)) w (pk K) E) w fun t39 w=>
 DoX prog (aL t36 (.bool true) t39) w (pk K) fun t40 w=>
 GDo t40 false (fun E=>E t29 w) w fun t42 w=>
 GDo t40 false (fun E=>DoX prog (mBin .mul 3 (.int .i64 16) t42) w (pk K) E) w fun t43 w=>
 GDo t40 false (fun E=>E t34 w) w fun t44 w=>
 GDo t40 false (fun E=>DoX prog (mBin .add 3 t43 t44) w (pk K) E) w fun t45 w=>
 GDo t40 false (fun E=>DoX prog (mEq .eql 3 (.tmp 45) (.const (.int .i64 0)) t45 (.int .i64 0)) w (pk K) E) w fun t46 w=>
 DoX prog (aL t40 (.bool true) t46) w (pk K) fun t47 w=>
 IfX t47 (K (.returned (.tuple #[(.string ⟨#[]⟩),(.int .i64 3)])) w) (DoX prog (mBin .mul 3 (.int .i64 16) t29) w (pk K) fun t49 w=>
 DoX prog (mBin .add 3 t49 t34) w (pk K) fun t51 w=>
 DoX prog (cP 3 5 t51) w (pk K) fun t52 w=>
 DoX prog (mBin .add 3 t5 (.int .i64 2)) w (pk K) fun t54 w=>
 J2 [t54,t52] w)))) (J2 [t5,t17] w)) (fun vs2 w=>∀_:Sg,lX t4 (vs2.getD 0 undef) (vs2.getD 1 undef) w N1 K)) (DoX prog (mB .len #[66] 3 #[false] #[t4]) w (pk K) fun t60 w=>
 DoX prog (mBin .gtr 3 t60 (.int .i64 127)) w (pk K) fun t61 w=>
 IfX t61 (K (.returned (.tuple #[(.string ⟨#[]⟩),(.int .i64 5)])) w) (DoX prog (cP 66 9 t4) w (pk K) fun t63 w=>
 K (.returned (.tuple #[t63,(.int .i64 0)])) w))
def gQ (t0:Value)(w:World)(K:Ending→World→Prop):Prop:=
 LoopX [(.slice none 0 0),(.int .i64 0)] w (fun vs1 w N1=>∀_:Sg,lU t0 (vs1.getD 0 undef) (vs1.getD 1 undef) w N1 K)
theorem wA (t0:Value)(w:World)(K:Ending→World→Prop):wpX prog 64 [(14,[5,6])] [(3,[4,5])] none (aK Tryz.f68) (topQ prog [.tmp 2,.tmp 3] K) (aJ [t0]) [] w=gQ t0 w K:=by kernel_rfl
theorem vR {t0:Value}{w:World}{K:Ending→World→Prop}(h:gQ t0 w K):Calls prog 68 #[t0] w K:=
 aA Tryz.func68 rfl rfl rfl rfl (Eq.mpr (wA t0 w K) h)
def jX (t0 t1 t10 t11:Value)(w:World)(N2:List Value→World→Prop)(K:Ending→World→Prop):Prop:=
 DoX prog (mB .len #[9] 3 #[false] #[t0]) w (pk K) fun t64 w=>
 DoX prog (mBin .lss 3 t11 t64) w (pk K) fun t65 w=>
 GDo t65 true (fun E=>E t11 w) w fun t67 w=>
 GDo t65 true (fun E=>E t1 w) w fun t68 w=>
 GDo t65 true (fun E=>DoX prog (mBin .add 3 t68 (.int .i64 4)) w (pk K) E) w fun t69 w=>
 GDo t65 true (fun E=>DoX prog (mBin .lss 3 t67 t69) w (pk K) E) w fun t70 w=>
 DoX prog (aL t65 t70 (.bool false)) w (pk K) fun t71 w=>
 GDo t71 true (fun E=>E t0 w) w fun t73 w=>
 GDo t71 true (fun E=>E t11 w) w fun t74 w=>
 GDo t71 true (fun E=>DoX prog (mIx 9 t73 t74) w (pk K) E) w fun t75 w=>
 GDo t71 true (fun E=>DoX prog (mBin .geq 5 t75 (.int .u8 48)) w (pk K) E) w fun t76 w=>
 DoX prog (aL t71 t76 (.bool false)) w (pk K) fun t77 w=>
 GDo t77 true (fun E=>E t0 w) w fun t79 w=>
 GDo t77 true (fun E=>E t11 w) w fun t80 w=>
 GDo t77 true (fun E=>DoX prog (mIx 9 t79 t80) w (pk K) E) w fun t81 w=>
 GDo t77 true (fun E=>DoX prog (mBin .leq 5 t81 (.int .u8 55)) w (pk K) E) w fun t82 w=>
 DoX prog (aL t77 t82 (.bool false)) w (pk K) fun t83 w=>
 IfX t83 (DoX prog (mBin .mul 3 (.int .i64 8) t10) w (pk K) fun t85 w=>
 DoX prog (mIx 9 t0 t11) w (pk K) fun t88 w=>
 DoX prog (cP 5 3 t88) w (pk K) fun t89 w=>
 DoX prog (mBin .add 3 t85 t89) w (pk K) fun t90 w=>
 DoX prog (mBin .sub 3 t90 (.int .i64 48)) w (pk K) fun t91 w=>
 DoX prog (mBin .add 3 t11 (.int .i64 1)) w (pk K) fun t93 w=>
 N2 [t91,t93] w) (DoX prog (mBin .add 3 t1 (.int .i64 1)) w (pk K) fun t96 w=>
 DoX prog (mBin .gtr 3 t11 t96) w (pk K) fun t97 w=>
 IfX t97 (DoX prog (mBin .rem 3 t10 (.int .i64 256)) w (pk K) fun t99 w=>
 DoX prog (cP 3 5 t99) w (pk K) fun t100 w=>
 DoX prog (aP 66 1 #[(0,t100)]) w (pk K) fun t101 w=>
 DoX prog (cP 66 9 t101) w (pk K) fun t102 w=>
 K (.returned (.tuple #[t102,t11])) w) (DoX prog (mBin .add 3 t1 (.int .i64 1)) w (pk K) fun t106 w=>
 DoX prog (mBin .add 3 t1 (.int .i64 2)) w (pk K) fun t108 w=>
 DoX prog (bT 9 t0 (some t106) (some t108) none) w (pk K) fun t109 w=>
 DoX prog (mBin .add 3 t1 (.int .i64 2)) w (pk K) fun t111 w=>
 K (.returned (.tuple #[t109,t111])) w))
def iZ (t0 t1 t6 t7 t8 t9:Value)(w:World)(N1:List Value→World→Prop)(K:Ending→World→Prop):Prop:=
 DoX prog (mB .len #[9] 3 #[false] #[t7]) w (pk K) fun t18 w=>
 DoX prog (mBin .lss 3 t9 t18) w (pk K) fun t19 w=>
 IfX t19 (DoX prog (mIx 9 t7 t9) w (pk K) fun t25 w=>
 DoX prog (mEq .eql 5 (.tmp 22) (.tmp 25) t6 t25) w (pk K) fun t26 w=>
 IfX t26 (DoX prog (mBin .add 3 t9 (.int .i64 1)) w (pk K) fun t30 w=>
 DoX prog (bT 9 t8 (some t9) (some t30) none) w (pk K) fun t31 w=>
 DoX prog (mBin .add 3 t1 (.int .i64 2)) w (pk K) fun t33 w=>
 K (.returned (.tuple #[t31,t33])) w) (DoX prog (mBin .add 3 t9 (.int .i64 1)) w (pk K) fun t21 w=>
 N1 [t21] w)) (DoX prog (mEq .eql 5 (.tmp 34) (.const (.int .u8 13)) t6 (.int .u8 13)) w (pk K) fun t35 w=>
 GDo t35 true (fun E=>E t1 w) w fun t37 w=>
 GDo t35 true (fun E=>DoX prog (mBin .add 3 t37 (.int .i64 2)) w (pk K) E) w fun t38 w=>
 GDo t35 true (fun E=>E t0 w) w fun t39 w=>
 GDo t35 true (fun E=>DoX prog (mB .len #[9] 3 #[false] #[t39]) w (pk K) E) w fun t40 w=>
 GDo t35 true (fun E=>DoX prog (mBin .lss 3 t38 t40) w (pk K) E) w fun t41 w=>
 DoX prog (aL t35 t41 (.bool false)) w (pk K) fun t42 w=>
 GDo t42 true (fun E=>E t0 w) w fun t44 w=>
 GDo t42 true (fun E=>E t1 w) w fun t45 w=>
 GDo t42 true (fun E=>DoX prog (mBin .add 3 t45 (.int .i64 2)) w (pk K) E) w fun t46 w=>
 GDo t42 true (fun E=>DoX prog (mIx 9 t44 t46) w (pk K) E) w fun t47 w=>
 GDo t42 true (fun E=>DoX prog (mEq .eql 5 (.tmp 47) (.const (.int .u8 10)) t47 (.int .u8 10)) w (pk K) E) w fun t48 w=>
 DoX prog (aL t42 t48 (.bool false)) w (pk K) fun t49 w=>
 IfX t49 (DoX prog (mBin .add 3 t1 (.int .i64 3)) w (pk K) fun t51 w=>
 K (.returned (.tuple #[(.string ⟨#[]⟩),t51])) w) (DoX prog (mEq .eql 5 (.tmp 52) (.const (.int .u8 13)) t6 (.int .u8 13)) w (pk K) fun t53 w=>
 GDo t53 false (fun E=>E t6 w) w fun t55 w=>
 GDo t53 false (fun E=>DoX prog (mEq .eql 5 (.tmp 55) (.const (.int .u8 10)) t55 (.int .u8 10)) w (pk K) E) w fun t56 w=>
 DoX prog (aL t53 (.bool true) t56) w (pk K) fun t57 w=>
 IfX t57 (DoX prog (mBin .add 3 t1 (.int .i64 2)) w (pk K) fun t59 w=>
 K (.returned (.tuple #[(.string ⟨#[]⟩),t59])) w) (DoX prog (mBin .add 3 t1 (.int .i64 1)) w (pk K) fun t61 w=>
 LoopX [(.int .i64 0),t61] w (fun vs2 w N2=>∀_:Sg,jX t0 t1 (vs2.getD 0 undef) (vs2.getD 1 undef) w N2 K))))
def fA (t0 t1:Value)(w:World)(K:Ending→World→Prop):Prop:=
 DoX prog (mBin .add 3 t1 (.int .i64 1)) w (pk K) fun t14 w=>
 DoX prog (mIx 9 t0 t14) w (pk K) fun t15 w=>
 LoopX [(.int .i64 0)] w (fun vs1 w N1=>∀_:Sg,iZ t0 t1 t15 (.string ⟨#[110,114,116,98,102]⟩) (.string ⟨#[10,13,9,8,12]⟩) (vs1.getD 0 undef) w N1 K)
theorem sD (t0 t1:Value)(w:World)(K:Ending→World→Prop):wpX prog 112 [] [(4,[9]),(13,[10,11])] none (aK Tryz.f113) (topQ prog [.tmp 4,.tmp 5] K) (aJ [t0,t1]) [] w=fA t0 t1 w K:=by kernel_rfl
theorem rZ {t0 t1:Value}{w:World}{K:Ending→World→Prop}(h:fA t0 t1 w K):Calls prog 113 #[t0,t1] w K:=
 aA Tryz.func113 rfl rfl rfl rfl (Eq.mpr (sD t0 t1 w K) h)
def mL (t1 t7 t8 t9:Value)(w:World)(N1:List Value→World→Prop)(K:Ending→World→Prop):Prop:=
 DoX prog (aP 66 1 #[(0,t9)]) w (pk K) fun t75 w=>
 DoX prog (mB .append #[66,66] 66 #[false,false] #[t7,t75]) w (pk K) fun t76 w=>
 DoX prog (mBin .add 3 t1 (.int .i64 1)) w (pk K) fun t78 w=>
 N1 [t78,t76,t8] w
def lO (t1 t7 t8 t9:Value)(w:World)(N1:List Value→World→Prop)(K:Ending→World→Prop):Prop:=
 JoinX (fun J5=>
 DoX prog (mEq .eql 5 (.tmp 71) (.const (.int .u8 13)) t9 (.int .u8 13)) w (pk K) fun t72 w=>
 IfX t72 (J5 [(.int .u8 10)] w) (J5 [t9] w)) (fun vs5 w=>∀_:Sg,mL t1 t7 t8 (vs5.getD 0 undef) w N1 K)
def lQ (t0 t1 t7 t8 t9:Value)(w:World)(N1:List Value→World→Prop)(K:Ending→World→Prop):Prop:=
 JoinX (fun J4=>
 DoX prog (mEq .eql 5 (.tmp 53) (.const (.int .u8 13)) t9 (.int .u8 13)) w (pk K) fun t54 w=>
 GDo t54 true (fun E=>E t1 w) w fun t56 w=>
 GDo t54 true (fun E=>DoX prog (mBin .add 3 t56 (.int .i64 1)) w (pk K) E) w fun t57 w=>
 GDo t54 true (fun E=>E t0 w) w fun t58 w=>
 GDo t54 true (fun E=>DoX prog (mB .len #[9] 3 #[false] #[t58]) w (pk K) E) w fun t59 w=>
 GDo t54 true (fun E=>DoX prog (mBin .lss 3 t57 t59) w (pk K) E) w fun t60 w=>
 DoX prog (aL t54 t60 (.bool false)) w (pk K) fun t61 w=>
 GDo t61 true (fun E=>E t0 w) w fun t63 w=>
 GDo t61 true (fun E=>E t1 w) w fun t64 w=>
 GDo t61 true (fun E=>DoX prog (mBin .add 3 t64 (.int .i64 1)) w (pk K) E) w fun t65 w=>
 GDo t61 true (fun E=>DoX prog (mIx 9 t63 t65) w (pk K) E) w fun t66 w=>
 GDo t61 true (fun E=>DoX prog (mEq .eql 5 (.tmp 66) (.const (.int .u8 10)) t66 (.int .u8 10)) w (pk K) E) w fun t67 w=>
 DoX prog (aL t61 t67 (.bool false)) w (pk K) fun t68 w=>
 IfX t68 (DoX prog (mBin .add 3 t1 (.int .i64 1)) w (pk K) fun t70 w=>
 J4 [t70] w) (J4 [t1] w)) (fun vs4 w=>∀_:Sg,lO (vs4.getD 0 undef) t7 t8 t9 w N1 K)
def mJ (t0 t1 t7 t8 t9:Value)(w:World)(N1:List Value→World→Prop)(K:Ending→World→Prop):Prop:=
 JoinX (fun J3=>
 DoX prog (mEq .eql 5 (.tmp 40) (.const (.int .u8 41)) t9 (.int .u8 41)) w (pk K) fun t41 w=>
 IfX t41 (DoX prog (mBin .sub 3 t8 (.int .i64 1)) w (pk K) fun t43 w=>
 DoX prog (mEq .eql 3 (.tmp 44) (.const (.int .i64 0)) t43 (.int .i64 0)) w (pk K) fun t45 w=>
 IfX t45 (DoX prog (mB .len #[66] 3 #[false] #[t7]) w (pk K) fun t47 w=>
 DoX prog (mBin .gtr 3 t47 (.int .i64 32767)) w (pk K) fun t48 w=>
 IfX t48 (K (.returned (.tuple #[(.string ⟨#[]⟩),(.int .i64 0),(.int .i64 5)])) w) (DoX prog (cP 66 9 t7) w (pk K) fun t50 w=>
 DoX prog (mBin .add 3 t1 (.int .i64 1)) w (pk K) fun t52 w=>
 K (.returned (.tuple #[t50,t52,(.int .i64 0)])) w)) (J3 [t43] w)) (J3 [t8] w)) (fun vs3 w=>∀_:Sg,lQ t0 t1 t7 (vs3.getD 0 undef) t9 w N1 K)
def lJ (t0 t1 t7 t8:Value)(w:World)(N1:List Value→World→Prop)(K:Ending→World→Prop):Prop:=
 DoX prog (mB .len #[9] 3 #[false] #[t0]) w (pk K) fun t14 w=>
 DoX prog (mBin .lss 3 t1 t14) w (pk K) fun t15 w=>
 IfX t15 (DoX prog (mIx 9 t0 t1) w (pk K) fun t18 w=>
 DoX prog (mEq .eql 5 (.tmp 19) (.const (.int .u8 92)) t18 (.int .u8 92)) w (pk K) fun t20 w=>
 IfX t20 (DoX prog (mBin .add 3 t1 (.int .i64 1)) w (pk K) fun t22 w=>
 DoX prog (mB .len #[9] 3 #[false] #[t0]) w (pk K) fun t24 w=>
 DoX prog (mBin .geq 3 t22 t24) w (pk K) fun t25 w=>
 IfX t25 (K (.returned (.tuple #[(.string ⟨#[]⟩),(.int .i64 0),(.int .i64 4)])) w) (CallX prog 113 #[t0,t1] w (pk K) fun t29 w=>
 DoX prog (mExt t29 0) w (pk K) fun t30 w=>
 DoX prog (mExt t29 1) w (pk K) fun t31 w=>
 DoX prog (mB .append #[66,9] 66 #[false,false] #[t7,t30]) w (pk K) fun t34 w=>
 N1 [t31,t34,t8] w)) (JoinX (fun J2=>
 DoX prog (mEq .eql 5 (.tmp 36) (.const (.int .u8 40)) t18 (.int .u8 40)) w (pk K) fun t37 w=>
 IfX t37 (DoX prog (mBin .add 3 t8 (.int .i64 1)) w (pk K) fun t39 w=>
 J2 [t39] w) (J2 [t8] w)) (fun vs2 w=>∀_:Sg,mJ t0 t1 t7 (vs2.getD 0 undef) t18 w N1 K))) (K (.returned (.tuple #[(.string ⟨#[]⟩),(.int .i64 0),(.int .i64 4)])) w)
def gK (t0 t1:Value)(w:World)(K:Ending→World→Prop):Prop:=
 LoopX [t1,(.slice none 0 0),(.int .i64 1)] w (fun vs1 w N1=>∀_:Sg,lJ t0 (vs1.getD 0 undef) (vs1.getD 1 undef) (vs1.getD 2 undef) w N1 K)
theorem wE (t0 t1:Value)(w:World)(K:Ending→World→Prop):wpX prog 79 [(13,[8]),(19,[8]),(21,[1]),(23,[9])] [(3,[1,7,8])] none (aK Tryz.f69) (topQ prog [.tmp 4,.tmp 5,.tmp 6] K) (aJ [t0,t1]) [] w=gK t0 t1 w K:=by kernel_rfl
theorem wW {t0 t1:Value}{w:World}{K:Ending→World→Prop}(h:gK t0 t1 w K):Calls prog 69 #[t0,t1] w K:=
 aA Tryz.func69 rfl rfl rfl rfl (Eq.mpr (wE t0 t1 w K) h)
def nG (t1 t7:Value)(w:World)(K:Ending→World→Prop):Prop:=
 DoX prog (cP 66 9 t7) w (pk K) fun t51 w=>
 CallX prog 114 #[t51] w (pk K) fun t52 w=>
 DoX prog (mExt t52 0) w (pk K) fun t53 w=>
 DoX prog (mExt t52 1) w (pk K) fun t54 w=>
 DoX prog (mB .len #[9] 3 #[false] #[t53]) w (pk K) fun t56 w=>
 DoX prog (mBin .gtr 3 t56 (.int .i64 32767)) w (pk K) fun t57 w=>
 IfX t57 (K (.returned (.tuple #[(.string ⟨#[]⟩),(.int .i64 0),(.int .i64 5)])) w) (DoX prog (mBin .add 3 t1 (.int .i64 1)) w (pk K) fun t60 w=>
 K (.returned (.tuple #[t53,t60,(.int .i64 0)])) w)
def nK (t1 t7:Value)(w:World)(N1:List Value→World→Prop)(K:Ending→World→Prop):Prop:=
 DoX prog (mBin .add 3 t1 (.int .i64 1)) w (pk K) fun t37 w=>
 N1 [t37,t7] w
def nJ (t0 t1 t7:Value)(w:World)(N1:List Value→World→Prop)(K:Ending→World→Prop):Prop:=
 DoX prog (mB .len #[9] 3 #[false] #[t0]) w (pk K) fun t12 w=>
 DoX prog (mBin .lss 3 t1 t12) w (pk K) fun t13 w=>
 GDo t13 true (fun E=>E t0 w) w fun t15 w=>
 GDo t13 true (fun E=>E t1 w) w fun t16 w=>
 GDo t13 true (fun E=>DoX prog (mIx 9 t15 t16) w (pk K) E) w fun t17 w=>
 GDo t13 true (fun E=>DoX prog (mEq .neq 5 (.tmp 17) (.const (.int .u8 62)) t17 (.int .u8 62)) w (pk K) E) w fun t18 w=>
 DoX prog (aL t13 t18 (.bool false)) w (pk K) fun t19 w=>
 IfX t19 (JoinX (fun J2=>
 DoX prog (mIx 9 t0 t1) w (pk K) fun t22 w=>
 CallX prog 112 #[t22] w (pk K) fun t23 w=>
 DoX prog (mBin .geq 3 t23 (.int .i64 0)) w (pk K) fun t24 w=>
 IfX t24 (DoX prog (mIx 9 t0 t1) w (pk K) fun t28 w=>
 DoX prog (aP 66 1 #[(0,t28)]) w (pk K) fun t29 w=>
 DoX prog (mB .append #[66,66] 66 #[false,false] #[t7,t29]) w (pk K) fun t30 w=>
 J2 [t30] w) (DoX prog (mIx 9 t0 t1) w (pk K) fun t33 w=>
 CallX prog 42 #[t33] w (pk K) fun t34 w=>
 DoX prog (mUn .not t34) w (pk K) fun t35 w=>
 IfX t35 (K (.returned (.tuple #[(.string ⟨#[]⟩),(.int .i64 0),(.int .i64 3)])) w) (J2 [t7] w))) (fun vs2 w=>∀_:Sg,nK t1 (vs2.getD 0 undef) w N1 K)) (DoX prog (mB .len #[9] 3 #[false] #[t0]) w (pk K) fun t40 w=>
 DoX prog (mBin .geq 3 t1 t40) w (pk K) fun t41 w=>
 IfX t41 (K (.returned (.tuple #[(.string ⟨#[]⟩),(.int .i64 0),(.int .i64 4)])) w) (JoinX (fun J3=>
 DoX prog (mB .len #[66] 3 #[false] #[t7]) w (pk K) fun t43 w=>
 DoX prog (mBin .rem 3 t43 (.int .i64 2)) w (pk K) fun t44 w=>
 DoX prog (mEq .neq 3 (.tmp 44) (.const (.int .i64 0)) t44 (.int .i64 0)) w (pk K) fun t45 w=>
 IfX t45 (DoX prog (aP 66 1 #[(0,(.int .u8 48))]) w (pk K) fun t47 w=>
 DoX prog (mB .append #[66,66] 66 #[false,false] #[t7,t47]) w (pk K) fun t48 w=>
 J3 [t48] w) (J3 [t7] w)) (fun vs3 w=>∀_:Sg,nG t1 (vs3.getD 0 undef) w K)))
def jN (t0 t1:Value)(w:World)(K:Ending→World→Prop):Prop:=
 LoopX [t1,(.slice none 0 0)] w (fun vs1 w N1=>∀_:Sg,nJ t0 (vs1.getD 0 undef) (vs1.getD 1 undef) w N1 K)
theorem xU (t0 t1:Value)(w:World)(K:Ending→World→Prop):wpX prog 61 [(7,[7]),(12,[7])] [(2,[1,7])] none (aK Tryz.f70) (topQ prog [.tmp 4,.tmp 5,.tmp 6] K) (aJ [t0,t1]) [] w=jN t0 t1 w K:=by kernel_rfl
theorem zI {t0 t1:Value}{w:World}{K:Ending→World→Prop}(h:jN t0 t1 w K):Calls prog 70 #[t0,t1] w K:=
 aA Tryz.func70 rfl rfl rfl rfl (Eq.mpr (xU t0 t1 w K) h)
def eE (t1 t4 t11 t12 t13:Value)(w:World)(K:Ending→World→Prop):Prop:=
 DoX prog (mEq .neq 24 (.tmp 128) (.const (.int .i64 0)) t13 (.int .i64 0)) w (pk K) fun t129 w=>
 IfX t129 (DoX prog (aG 53 #[]) w (pk K) fun t130 w=>
 DoX prog (aD 53 t4 t130) w (pk K) fun _ w=>
 RetX prog [.cell t4 53,.val t13] w K) (DoX prog (aG 53 #[(0,(.int .i64 3)),(1,t1),(2,t12),(4,t11)]) w (pk K) fun t135 w=>
 DoX prog (aD 53 t4 t135) w (pk K) fun _ w=>
 RetX prog [.cell t4 53,.val (.int .i64 0)] w K)
def fO (t0 t1:Value)(w:World)(K:Ending→World→Prop):Prop:=
 DoX prog (aN 53) w (pk K) fun t4 w=>
 DoX prog (mIx 9 t0 t1) w (pk K) fun t19 w=>
 DoX prog (mBin .add 3 t1 (.int .i64 1)) w (pk K) fun t21 w=>
 DoX prog (mB .len #[9] 3 #[false] #[t0]) w (pk K) fun t23 w=>
 DoX prog (mBin .lss 3 t21 t23) w (pk K) fun t24 w=>
 GDo t24 true (fun E=>E t0 w) w fun t26 w=>
 GDo t24 true (fun E=>E t1 w) w fun t27 w=>
 GDo t24 true (fun E=>DoX prog (mBin .add 3 t27 (.int .i64 1)) w (pk K) E) w fun t28 w=>
 GDo t24 true (fun E=>DoX prog (mIx 9 t26 t28) w (pk K) E) w fun t29 w=>
 GDo t24 true (fun E=>E t19 w) w fun t30 w=>
 GDo t24 true (fun E=>DoX prog (mEq .eql 5 (.tmp 29) (.tmp 30) t29 t30) w (pk K) E) w fun t31 w=>
 DoX prog (aL t24 t31 (.bool false)) w (pk K) fun t32 w=>
 DoX prog (mEq .eql 5 (.tmp 33) (.const (.int .u8 60)) t19 (.int .u8 60)) w (pk K) fun t34 w=>
 GDo t34 false (fun E=>E t19 w) w fun t36 w=>
 GDo t34 false (fun E=>DoX prog (mEq .eql 5 (.tmp 36) (.const (.int .u8 62)) t36 (.int .u8 62)) w (pk K) E) w fun t37 w=>
 DoX prog (aL t34 (.bool true) t37) w (pk K) fun t38 w=>
 GDo t38 true (fun E=>E t32 w) w fun t40 w=>
 DoX prog (aL t38 t40 (.bool false)) w (pk K) fun t41 w=>
 IfX t41 (DoX prog (mBin .add 3 t1 (.int .i64 2)) w (pk K) fun t44 w=>
 DoX prog (mBin .add 3 t1 (.int .i64 2)) w (pk K) fun t48 w=>
 DoX prog (bT 9 t0 (some t1) (some t48) none) w (pk K) fun t49 w=>
 DoX prog (aG 53 #[(0,(.int .i64 6)),(1,t1),(2,t44),(4,t49)]) w (pk K) fun t50 w=>
 DoX prog (aD 53 t4 t50) w (pk K) fun _ w=>
 RetX prog [.cell t4 53,.val (.int .i64 0)] w K) (DoX prog (mEq .eql 5 (.tmp 51) (.const (.int .u8 91)) t19 (.int .u8 91)) w (pk K) fun t52 w=>
 GDo t52 false (fun E=>E t19 w) w fun t54 w=>
 GDo t52 false (fun E=>DoX prog (mEq .eql 5 (.tmp 54) (.const (.int .u8 93)) t54 (.int .u8 93)) w (pk K) E) w fun t55 w=>
 DoX prog (aL t52 (.bool true) t55) w (pk K) fun t56 w=>
 GDo t56 false (fun E=>E t19 w) w fun t58 w=>
 GDo t56 false (fun E=>DoX prog (mEq .eql 5 (.tmp 58) (.const (.int .u8 123)) t58 (.int .u8 123)) w (pk K) E) w fun t59 w=>
 DoX prog (aL t56 (.bool true) t59) w (pk K) fun t60 w=>
 GDo t60 false (fun E=>E t19 w) w fun t62 w=>
 GDo t60 false (fun E=>DoX prog (mEq .eql 5 (.tmp 62) (.const (.int .u8 125)) t62 (.int .u8 125)) w (pk K) E) w fun t63 w=>
 DoX prog (aL t60 (.bool true) t63) w (pk K) fun t64 w=>
 IfX t64 (DoX prog (mBin .add 3 t1 (.int .i64 1)) w (pk K) fun t67 w=>
 DoX prog (mBin .add 3 t1 (.int .i64 1)) w (pk K) fun t71 w=>
 DoX prog (bT 9 t0 (some t1) (some t71) none) w (pk K) fun t72 w=>
 DoX prog (aG 53 #[(0,(.int .i64 6)),(1,t1),(2,t67),(4,t72)]) w (pk K) fun t73 w=>
 DoX prog (aD 53 t4 t73) w (pk K) fun _ w=>
 RetX prog [.cell t4 53,.val (.int .i64 0)] w K) (DoX prog (mEq .eql 5 (.tmp 74) (.const (.int .u8 62)) t19 (.int .u8 62)) w (pk K) fun t75 w=>
 GDo t75 false (fun E=>E t19 w) w fun t77 w=>
 GDo t75 false (fun E=>DoX prog (mEq .eql 5 (.tmp 77) (.const (.int .u8 41)) t77 (.int .u8 41)) w (pk K) E) w fun t78 w=>
 DoX prog (aL t75 (.bool true) t78) w (pk K) fun t79 w=>
 IfX t79 (DoX prog (aG 53 #[]) w (pk K) fun t80 w=>
 DoX prog (aD 53 t4 t80) w (pk K) fun _ w=>
 RetX prog [.cell t4 53,.val (.int .i64 3)] w K) (DoX prog (mEq .eql 5 (.tmp 81) (.const (.int .u8 47)) t19 (.int .u8 47)) w (pk K) fun t82 w=>
 IfX t82 (DoX prog (mBin .add 3 t1 (.int .i64 1)) w (pk K) fun t85 w=>
 CallX prog 67 #[t0,t85] w (pk K) fun t86 w=>
 DoX prog (mBin .add 3 t1 (.int .i64 1)) w (pk K) fun t90 w=>
 DoX prog (bT 9 t0 (some t90) (some t86) none) w (pk K) fun t92 w=>
 CallX prog 68 #[t92] w (pk K) fun t93 w=>
 DoX prog (mExt t93 0) w (pk K) fun t94 w=>
 DoX prog (mExt t93 1) w (pk K) fun t95 w=>
 DoX prog (mEq .neq 24 (.tmp 96) (.const (.int .i64 0)) t95 (.int .i64 0)) w (pk K) fun t97 w=>
 IfX t97 (DoX prog (aG 53 #[]) w (pk K) fun t98 w=>
 DoX prog (aD 53 t4 t98) w (pk K) fun _ w=>
 RetX prog [.cell t4 53,.val t95] w K) (DoX prog (aG 53 #[(0,(.int .i64 4)),(1,t1),(2,t86),(4,t94)]) w (pk K) fun t103 w=>
 DoX prog (aD 53 t4 t103) w (pk K) fun _ w=>
 RetX prog [.cell t4 53,.val (.int .i64 0)] w K)) (DoX prog (mEq .eql 5 (.tmp 104) (.const (.int .u8 40)) t19 (.int .u8 40)) w (pk K) fun t105 w=>
 GDo t105 false (fun E=>E t19 w) w fun t107 w=>
 GDo t105 false (fun E=>DoX prog (mEq .eql 5 (.tmp 107) (.const (.int .u8 60)) t107 (.int .u8 60)) w (pk K) E) w fun t108 w=>
 DoX prog (aL t105 (.bool true) t108) w (pk K) fun t109 w=>
 IfX t109 (DoX prog (mBin .add 3 t1 (.int .i64 1)) w (pk K) fun t113 w=>
 CallX prog 69 #[t0,t113] w (pk K) fun t114 w=>
 DoX prog (mExt t114 0) w (pk K) fun t115 w=>
 DoX prog (mExt t114 1) w (pk K) fun t116 w=>
 DoX prog (mExt t114 2) w (pk K) fun t117 w=>
 JoinX (fun J1=>
 DoX prog (mEq .eql 5 (.tmp 118) (.const (.int .u8 60)) t19 (.int .u8 60)) w (pk K) fun t119 w=>
 IfX t119 (DoX prog (mBin .add 3 t1 (.int .i64 1)) w (pk K) fun t123 w=>
 CallX prog 70 #[t0,t123] w (pk K) fun t124 w=>
 DoX prog (mExt t124 0) w (pk K) fun t125 w=>
 DoX prog (mExt t124 1) w (pk K) fun t126 w=>
 DoX prog (mExt t124 2) w (pk K) fun t127 w=>
 J1 [t125,t126,t127] w) (J1 [t115,t116,t117] w)) (fun vs1 w=>∀_:Sg,eE t1 t4 (vs1.getD 0 undef) (vs1.getD 1 undef) (vs1.getD 2 undef) w K)) (CallX prog 67 #[t0,t1] w (pk K) fun t138 w=>
 DoX prog (bT 9 t0 (some t1) (some t138) none) w (pk K) fun t143 w=>
 CallX prog 71 #[t143] w (pk K) fun t144 w=>
 DoX prog (mExt t144 0) w (pk K) fun t145 w=>
 DoX prog (mExt t144 1) w (pk K) fun t146 w=>
 DoX prog (aN 53) w (pk K) fun t15 w=>
 DoX prog (aD 53 t15 t145) w (pk K) fun _ w=>
 DoX prog (mEq .neq 24 (.tmp 147) (.const (.int .i64 0)) t146 (.int .i64 0)) w (pk K) fun t148 w=>
 IfX t148 (DoX prog (aG 53 #[]) w (pk K) fun t149 w=>
 DoX prog (aD 53 t4 t149) w (pk K) fun _ w=>
 RetX prog [.cell t4 53,.val t146] w K) (DoX prog (mFA 53 t15 1) w (pk K) fun t152 w=>
 DoX prog (aD 3 t152 t1) w (pk K) fun _ w=>
 DoX prog (mFA 53 t15 2) w (pk K) fun t154 w=>
 DoX prog (aD 3 t154 t138) w (pk K) fun _ w=>
 DoX prog (aB 53 t15) w (pk K) fun t155 w=>
 DoX prog (aD 53 t4 t155) w (pk K) fun _ w=>
 RetX prog [.cell t4 53,.val (.int .i64 0)] w K))))))
theorem tO (t0 t1:Value)(w:World)(K:Ending→World→Prop):wpX prog 156 [(19,[11,12,13])] [] none (aK Tryz.f43) (topQ prog [.cell 4 53,.tmp 5] K) (aJ [t0,t1]) [] w=fO t0 t1 w K:=by kernel_rfl
theorem tX {t0 t1:Value}{w:World}{K:Ending→World→Prop}(h:fO t0 t1 w K):Calls prog 43 #[t0,t1] w K:=
 aA Tryz.func43 rfl rfl rfl rfl (Eq.mpr (tO t0 t1 w K) h)
def iK (t0 t1:Value)(w:World)(K:Ending→World→Prop):Prop:=
 DoX prog (aN 53) w (pk K) fun t4 w=>
 DoX prog (mBin .lss 3 t1 (.int .i64 0)) w (pk K) fun t8 w=>
 GDo t8 false (fun E=>E t1 w) w fun t10 w=>
 GDo t8 false (fun E=>E t0 w) w fun t11 w=>
 GDo t8 false (fun E=>DoX prog (mB .len #[9] 3 #[false] #[t11]) w (pk K) E) w fun t12 w=>
 GDo t8 false (fun E=>DoX prog (mBin .gtr 3 t10 t12) w (pk K) E) w fun t13 w=>
 DoX prog (aL t8 (.bool true) t13) w (pk K) fun t14 w=>
 IfX t14 (DoX prog (aG 53 #[]) w (pk K) fun t15 w=>
 DoX prog (aD 53 t4 t15) w (pk K) fun _ w=>
 RetX prog [.cell t4 53,.val (.int .i64 1)] w K) (CallX prog 17 #[t0,t1] w (pk K) fun t18 w=>
 DoX prog (mB .len #[9] 3 #[false] #[t0]) w (pk K) fun t21 w=>
 DoX prog (mBin .geq 3 t18 t21) w (pk K) fun t22 w=>
 IfX t22 (DoX prog (mB .len #[9] 3 #[false] #[t0]) w (pk K) fun t24 w=>
 DoX prog (mB .len #[9] 3 #[false] #[t0]) w (pk K) fun t26 w=>
 DoX prog (aG 53 #[(0,(.int .i64 0)),(1,t24),(2,t26)]) w (pk K) fun t27 w=>
 DoX prog (aD 53 t4 t27) w (pk K) fun _ w=>
 RetX prog [.cell t4 53,.val (.int .i64 0)] w K) (CallX prog 43 #[t0,t18] w (pk K) fun t30 w=>
 DoX prog (mExt t30 0) w (pk K) fun t31 w=>
 DoX prog (mExt t30 1) w (pk K) fun t32 w=>
 DoX prog (aD 53 t4 t31) w (pk K) fun _ w=>
 RetX prog [.cell t4 53,.val t32] w K))
theorem vU (t0 t1:Value)(w:World)(K:Ending→World→Prop):wpX prog 33 [] [] none (aK Tryz.f18) (topQ prog [.cell 4 53,.tmp 5] K) (aJ [t0,t1]) [] w=iK t0 t1 w K:=by kernel_rfl
theorem wH {t0 t1:Value}{w:World}{K:Ending→World→Prop}(h:iK t0 t1 w K):Calls prog 18 #[t0,t1] w K:=
 aA Tryz.func18 rfl rfl rfl rfl (Eq.mpr (vU t0 t1 w K) h)
def fL (t0:Value)(w:World)(K:Ending→World→Prop):Prop:=
 DoX prog (mBin .geq 5 t0 (.int .u8 48)) w (pk K) fun t4 w=>
 GDo t4 true (fun E=>E t0 w) w fun t6 w=>
 GDo t4 true (fun E=>DoX prog (mBin .leq 5 t6 (.int .u8 57)) w (pk K) E) w fun t7 w=>
 DoX prog (aL t4 t7 (.bool false)) w (pk K) fun t8 w=>
 IfX t8 (DoX prog (cP 5 3 t0) w (pk K) fun t10 w=>
 DoX prog (mBin .sub 3 t10 (.int .i64 48)) w (pk K) fun t11 w=>
 K (.returned t11) w) (DoX prog (mBin .geq 5 t0 (.int .u8 65)) w (pk K) fun t13 w=>
 GDo t13 true (fun E=>E t0 w) w fun t15 w=>
 GDo t13 true (fun E=>DoX prog (mBin .leq 5 t15 (.int .u8 70)) w (pk K) E) w fun t16 w=>
 DoX prog (aL t13 t16 (.bool false)) w (pk K) fun t17 w=>
 IfX t17 (DoX prog (cP 5 3 t0) w (pk K) fun t19 w=>
 DoX prog (mBin .sub 3 t19 (.int .i64 65)) w (pk K) fun t20 w=>
 DoX prog (mBin .add 3 t20 (.int .i64 10)) w (pk K) fun t21 w=>
 K (.returned t21) w) (DoX prog (mBin .geq 5 t0 (.int .u8 97)) w (pk K) fun t23 w=>
 GDo t23 true (fun E=>E t0 w) w fun t25 w=>
 GDo t23 true (fun E=>DoX prog (mBin .leq 5 t25 (.int .u8 102)) w (pk K) E) w fun t26 w=>
 DoX prog (aL t23 t26 (.bool false)) w (pk K) fun t27 w=>
 IfX t27 (DoX prog (cP 5 3 t0) w (pk K) fun t29 w=>
 DoX prog (mBin .sub 3 t29 (.int .i64 97)) w (pk K) fun t30 w=>
 DoX prog (mBin .add 3 t30 (.int .i64 10)) w (pk K) fun t31 w=>
 K (.returned t31) w) (K (.returned (.int .i64 (-1))) w)))
theorem sL (t0:Value)(w:World)(K:Ending→World→Prop):wpX prog 32 [] [] none (aK Tryz.f112) (topQ prog [.tmp 2] K) (aJ [t0]) [] w=fL t0 w K:=by kernel_rfl
theorem tA {t0:Value}{w:World}{K:Ending→World→Prop}(h:fL t0 w K):Calls prog 112 #[t0] w K:=
 aA Tryz.func112 rfl rfl rfl rfl (Eq.mpr (sL t0 w K) h)
def kP (t0 t4 t5:Value)(w:World)(N1:List Value→World→Prop)(K:Ending→World→Prop):Prop:=
 DoX prog (mB .len #[9] 3 #[false] #[t0]) w (pk K) fun t14 w=>
 DoX prog (mBin .lss 3 t5 t14) w (pk K) fun t15 w=>
 IfX t15 (QuietX w (fun C2=>
 QDo prog C2 (mIx 9 t0 t5) fun t20=>
 QCall prog C2 112 #[t20] fun t21=>
 QDo prog C2 (mBin .add 3 t5 (.int .i64 1)) fun t24=>
 QDo prog C2 (mIx 9 t0 t24) fun t25=>
 QCall prog C2 112 #[t25] fun t26=>
 ∀w,C2 w →
 DoX prog (mBin .lss 3 t21 (.int .i64 0)) w (pk K) fun t28 w=>
 GDo t28 false (fun E=>E t26 w) w fun t30 w=>
 GDo t28 false (fun E=>DoX prog (mBin .lss 3 t30 (.int .i64 0)) w (pk K) E) w fun t31 w=>
 DoX prog (aL t28 (.bool true) t31) w (pk K) fun t32 w=>
 IfX t32 (K (.returned (.tuple #[(.string ⟨#[]⟩),(.int .i64 3)])) w) (DoX prog (mBin .mul 3 (.int .i64 16) t21) w (pk K) fun t35 w=>
 DoX prog (mBin .add 3 t35 t26) w (pk K) fun t37 w=>
 DoX prog (cP 3 5 t37) w (pk K) fun t38 w=>
 DoX prog (aP 66 1 #[(0,t38)]) w (pk K) fun t39 w=>
 DoX prog (mB .append #[66,66] 66 #[false,false] #[t4,t39]) w (pk K) fun t40 w=>
 DoX prog (mBin .add 3 t5 (.int .i64 2)) w (pk K) fun t17 w=>
 N1 [t40,t17] w))) (DoX prog (cP 66 9 t4) w (pk K) fun t42 w=>
 K (.returned (.tuple #[t42,(.int .i64 0)])) w)
def fU (t0:Value)(w:World)(K:Ending→World→Prop):Prop:=
 DoX prog (mB .len #[9] 3 #[false] #[t0]) w (pk K) fun t9 w=>
 DoX prog (mBin .rem 3 t9 (.int .i64 2)) w (pk K) fun t10 w=>
 DoX prog (mEq .neq 3 (.tmp 10) (.const (.int .i64 0)) t10 (.int .i64 0)) w (pk K) fun t11 w=>
 IfX t11 (K (.returned (.tuple #[(.string ⟨#[]⟩),(.int .i64 3)])) w) (LoopX [(.slice none 0 0),(.int .i64 0)] w (fun vs1 w N1=>∀_:Sg,kP t0 (vs1.getD 0 undef) (vs1.getD 1 undef) w N1 K))
theorem sF (t0:Value)(w:World)(K:Ending→World→Prop):wpX prog 43 [] [(5,[4,5])] none (aK Tryz.f114) (topQ prog [.tmp 2,.tmp 3] K) (aJ [t0]) [] w=fU t0 w K:=by kernel_rfl
theorem sI {t0:Value}{w:World}{K:Ending→World→Prop}(h:fU t0 w K):Calls prog 114 #[t0] w K:=
 aA Tryz.func114 rfl rfl rfl rfl (Eq.mpr (sF t0 w K) h)
def eZ (t0 t1 t2:Value)(w:World)(K:Ending→World→Prop):Prop:=
 DoX prog (mBin .geq 3 t2 (.int .i64 0)) w (pk K) fun t8 w=>
 GDo t8 true (fun E=>E t2 w) w fun t10 w=>
 GDo t8 true (fun E=>E t0 w) w fun t11 w=>
 GDo t8 true (fun E=>DoX prog (mB .len #[9] 3 #[false] #[t11]) w (pk K) E) w fun t12 w=>
 GDo t8 true (fun E=>DoX prog (mBin .leq 3 t10 t12) w (pk K) E) w fun t13 w=>
 DoX prog (aL t8 t13 (.bool false)) w (pk K) fun t14 w=>
 GDo t14 true (fun E=>E t1 w) w fun t16 w=>
 GDo t14 true (fun E=>DoX prog (mB .len #[9] 3 #[false] #[t16]) w (pk K) E) w fun t17 w=>
 GDo t14 true (fun E=>E t0 w) w fun t18 w=>
 GDo t14 true (fun E=>DoX prog (mB .len #[9] 3 #[false] #[t18]) w (pk K) E) w fun t19 w=>
 GDo t14 true (fun E=>E t2 w) w fun t20 w=>
 GDo t14 true (fun E=>DoX prog (mBin .sub 3 t19 t20) w (pk K) E) w fun t21 w=>
 GDo t14 true (fun E=>DoX prog (mBin .leq 3 t17 t21) w (pk K) E) w fun t22 w=>
 DoX prog (aL t14 t22 (.bool false)) w (pk K) fun t23 w=>
 GDo t23 true (fun E=>E t0 w) w fun t25 w=>
 GDo t23 true (fun E=>E t2 w) w fun t26 w=>
 GDo t23 true (fun E=>E t2 w) w fun t27 w=>
 GDo t23 true (fun E=>E t1 w) w fun t28 w=>
 GDo t23 true (fun E=>DoX prog (mB .len #[9] 3 #[false] #[t28]) w (pk K) E) w fun t29 w=>
 GDo t23 true (fun E=>DoX prog (mBin .add 3 t27 t29) w (pk K) E) w fun t30 w=>
 GDo t23 true (fun E=>DoX prog (bT 9 t25 (some t26) (some t30) none) w (pk K) E) w fun t31 w=>
 GDo t23 true (fun E=>E t1 w) w fun t32 w=>
 GDo t23 true (fun E=>DoX prog (mEq .eql 9 (.tmp 31) (.tmp 32) t31 t32) w (pk K) E) w fun t33 w=>
 DoX prog (aL t23 t33 (.bool false)) w (pk K) fun t34 w=>
 K (.returned t34) w
theorem rT (t0 t1 t2:Value)(w:World)(K:Ending→World→Prop):wpX prog 35 [] [] none (aK Tryz.f66) (topQ prog [.tmp 6] K) (aJ [t0,t1,t2]) [] w=eZ t0 t1 t2 w K:=by kernel_rfl
theorem rP {t0 t1 t2:Value}{w:World}{K:Ending→World→Prop}(h:eZ t0 t1 t2 w K):Calls prog 66 #[t0,t1,t2] w K:=
 aA Tryz.func66 rfl rfl rfl rfl (Eq.mpr (rT t0 t1 t2 w K) h)
def mG (t0 t5:Value)(w:World)(N1:List Value→World→Prop)(K:Ending→World→Prop):Prop:=
 DoX prog (mB .len #[9] 3 #[false] #[t0]) w (pk K) fun t18 w=>
 DoX prog (mBin .lss 3 t5 t18) w (pk K) fun t19 w=>
 IfX t19 (CallX prog 66 #[t0,(.string ⟨#[13,10]⟩),t5] w (pk K) fun t24 w=>
 IfX t24 (DoX prog (mBin .add 3 t5 (.int .i64 2)) w (pk K) fun t26 w=>
 K (.returned t26) w) (DoX prog (mIx 9 t0 t5) w (pk K) fun t29 w=>
 DoX prog (mEq .eql 5 (.tmp 29) (.const (.int .u8 13)) t29 (.int .u8 13)) w (pk K) fun t30 w=>
 GDo t30 false (fun E=>E t0 w) w fun t32 w=>
 GDo t30 false (fun E=>E t5 w) w fun t33 w=>
 GDo t30 false (fun E=>DoX prog (mIx 9 t32 t33) w (pk K) E) w fun t34 w=>
 GDo t30 false (fun E=>DoX prog (mEq .eql 5 (.tmp 34) (.const (.int .u8 10)) t34 (.int .u8 10)) w (pk K) E) w fun t35 w=>
 DoX prog (aL t30 (.bool true) t35) w (pk K) fun t36 w=>
 IfX t36 (DoX prog (mBin .add 3 t5 (.int .i64 1)) w (pk K) fun t38 w=>
 K (.returned t38) w) (DoX prog (mBin .add 3 t5 (.int .i64 1)) w (pk K) fun t21 w=>
 N1 [t21] w))) (DoX prog (mB .len #[9] 3 #[false] #[t0]) w (pk K) fun t40 w=>
 K (.returned t40) w)
def iN (t0 t1:Value)(w:World)(K:Ending→World→Prop):Prop:=
 DoX prog (mBin .lss 3 t1 (.int .i64 0)) w (pk K) fun t7 w=>
 GDo t7 false (fun E=>E t1 w) w fun t9 w=>
 GDo t7 false (fun E=>E t0 w) w fun t10 w=>
 GDo t7 false (fun E=>DoX prog (mB .len #[9] 3 #[false] #[t10]) w (pk K) E) w fun t11 w=>
 GDo t7 false (fun E=>DoX prog (mBin .gtr 3 t9 t11) w (pk K) E) w fun t12 w=>
 DoX prog (aL t7 (.bool true) t12) w (pk K) fun t13 w=>
 IfX t13 (K (.returned t1) w) (LoopX [t1] w (fun vs1 w N1=>∀_:Sg,mG t0 (vs1.getD 0 undef) w N1 K))
theorem vH (t0 t1:Value)(w:World)(K:Ending→World→Prop):wpX prog 41 [] [(4,[5])] none (aK Tryz.f41) (topQ prog [.tmp 4] K) (aJ [t0,t1]) [] w=iN t0 t1 w K:=by kernel_rfl
theorem wL {t0 t1:Value}{w:World}{K:Ending→World→Prop}(h:iN t0 t1 w K):Calls prog 41 #[t0,t1] w K:=
 aA Tryz.func41 rfl rfl rfl rfl (Eq.mpr (vH t0 t1 w K) h)
def lZ (t0 t1:Value)(w:World)(N1:List Value→World→Prop)(K:Ending→World→Prop):Prop:=
 DoX prog (mB .len #[9] 3 #[false] #[t0]) w (pk K) fun t16 w=>
 DoX prog (mBin .lss 3 t1 t16) w (pk K) fun t17 w=>
 IfX t17 (DoX prog (mIx 9 t0 t1) w (pk K) fun t20 w=>
 DoX prog (mEq .eql 5 (.tmp 20) (.const (.int .u8 37)) t20 (.int .u8 37)) w (pk K) fun t21 w=>
 IfX t21 (CallX prog 41 #[t0,t1] w (pk K) fun t24 w=>
 N1 [t24] w) (DoX prog (mIx 9 t0 t1) w (pk K) fun t27 w=>
 CallX prog 42 #[t27] w (pk K) fun t28 w=>
 IfX t28 (DoX prog (mBin .add 3 t1 (.int .i64 1)) w (pk K) fun t30 w=>
 N1 [t30] w) (K (.returned t1) w))) (K (.returned t1) w)
def iL (t0 t1:Value)(w:World)(K:Ending→World→Prop):Prop:=
 DoX prog (mBin .lss 3 t1 (.int .i64 0)) w (pk K) fun t6 w=>
 GDo t6 false (fun E=>E t1 w) w fun t8 w=>
 GDo t6 false (fun E=>E t0 w) w fun t9 w=>
 GDo t6 false (fun E=>DoX prog (mB .len #[9] 3 #[false] #[t9]) w (pk K) E) w fun t10 w=>
 GDo t6 false (fun E=>DoX prog (mBin .gtr 3 t8 t10) w (pk K) E) w fun t11 w=>
 DoX prog (aL t6 (.bool true) t11) w (pk K) fun t12 w=>
 IfX t12 (K (.returned t1) w) (LoopX [t1] w (fun vs1 w N1=>∀_:Sg,lZ t0 (vs1.getD 0 undef) w N1 K))
theorem vM (t0 t1:Value)(w:World)(K:Ending→World→Prop):wpX prog 33 [] [(3,[1])] none (aK Tryz.f17) (topQ prog [.tmp 4] K) (aJ [t0,t1]) [] w=iL t0 t1 w K:=by kernel_rfl
theorem vE {t0 t1:Value}{w:World}{K:Ending→World→Prop}(h:iL t0 t1 w K):Calls prog 17 #[t0,t1] w K:=
 aA Tryz.func17 rfl rfl rfl rfl (Eq.mpr (vM t0 t1 w K) h)
end
section
open Eng Go.RowKit
 attribute [local congr] iA in
theorem rD (c:UInt8)(w:World):Ret prog 112 #[.int .u8 c.toNat] w (fun v w'=>v=.int .i64 (Lx.digit c)∧w=w'):=by
  refine aO fun K hK=>tA ?_;unfold fL;have h256:=c.toNat_lt;simp +contextual only[rs,gs];by_cases h1:48≤c.toNat∧c.toNat≤57
  ·have hb:(decide ((48:Int)≤(c.toNat:Int))&&decide ((c.toNat:Int)≤57))=true:=by simp;omega
   simp only[hb,i_t];rw[c_64 (by omega) (by omega),PX,aC (by omega) (by omega)];exact hK _ _ ⟨by rw[Lx.digit,if_pos h1],rfl⟩
  have hb:(decide ((48:Int)≤(c.toNat:Int))&&decide ((c.toNat:Int)≤57))=false:=by
   rw[Bool.and_eq_false_iff,decide_eq_false_iff_not,decide_eq_false_iff_not];omega
  simp only[hb,i_f];by_cases h2:65≤c.toNat∧c.toNat≤70
  ·have hb:(decide ((65:Int)≤(c.toNat:Int))&&decide ((c.toNat:Int)≤70))=true:=by simp;omega
   simp only[hb,i_t];rw[c_64 (by omega) (by omega),PX,aC (by omega) (by omega),CX,aC (by omega) (by omega)];exact hK _ _ ⟨by rw[Lx.digit,if_neg h1,if_pos h2],rfl⟩
  have hb:(decide ((65:Int)≤(c.toNat:Int))&&decide ((c.toNat:Int)≤70))=false:=by
   rw[Bool.and_eq_false_iff,decide_eq_false_iff_not,decide_eq_false_iff_not];omega
  simp only[hb,i_f];by_cases h3:97≤c.toNat∧c.toNat≤102
  ·have hb:(decide ((97:Int)≤(c.toNat:Int))&&decide ((c.toNat:Int)≤102))=true:=by simp;omega
   simp only[hb,i_t];rw[c_64 (by omega) (by omega),PX,aC (by omega) (by omega),CX,aC (by omega) (by omega)];exact hK _ _ ⟨by rw[Lx.digit,if_neg h1,if_neg h2,if_pos h3],rfl⟩
  have hb:(decide ((97:Int)≤(c.toNat:Int))&&decide ((c.toNat:Int)≤102))=false:=by
   rw[Bool.and_eq_false_iff,decide_eq_false_iff_not,decide_eq_false_iff_not];omega
  simp only[hb,i_f];exact hK _ _ ⟨by rw[Lx.digit,if_neg h1,if_neg h2,if_neg h3],rfl⟩
 attribute [local congr] iA in
theorem Nh (s:List UInt8)(w:World)(hs:s.length≤1099511627776):Ret prog 114 #[.string ⟨s.toArray⟩] w (fun v w'=>v=.tuple #[.string ⟨(Lx.BC s).1.toArray⟩,.int .i64 (Lx.BC s).2]∧Below w.heap.size w w'):=by
  refine aO fun K hK=>sI ?_;unfold fU;rw[bD Tryz.underlying9,Ll (by omega)];have hr:((s.length:Int).tmod 2)=((s.length % 2:Nat):Int):=by rw[Int.tmod_eq_emod_of_nonneg (by omega)];omega
  rw[hr];by_cases hodd:s.length % 2=1
  ·rw[hodd];have hu:¬((1:Nat):Int)=0:=by omega
   simp only[rs,hu,decide_true,decide_not,decide_false,Bool.not_false];exact hK _ _ ⟨by rw[pK (FO _ s (Nat.le_refl _) hodd)],(Own.start w).done⟩
  have heven:s.length % 2=0:=by omega
  rw[heven];simp only[rs,ne_eq,Int.natCast_zero,not_true,decide_false];refine loop (fun vs w'=>∃(i:Nat) (v:Value) (acc:List UInt8),vs=[v,.int .i64 i]∧i≤s.length∧i % 2=0∧acc.length≤i∧Lx.unhex s=(Lx.unhex (s.drop i)).map (acc++·)∧Own w w' [BRow v acc])
   (fun vs _=>s.length - n1 vs) ⟨0,_,[],rfl,by omega,rfl,by simp,by simp,(Own.start w).Az _ 1⟩ ?_
  rintro vs w2 ⟨i,v,acc,rfl,hi,hi0,ha,he,ho⟩ _;simp only[kP,gd,bD Tryz.underlying9];rw[rF];by_cases hlt:(i:Int) < (s.length:Int)
  ·have hi2:i+1 < s.length:=by omega
   have hi3:i < s.length:=by omega
   simp only[hlt,decide_true,i_t];have b1:=Lx.nP s[i];have b2:=Lx.nP s[i+1];have hw1:IntKind.wrap .i64 ((i:Int)+1)=((i+1:Nat):Int):=by rw[aC (by omega) (by omega)];omega
   have hc1:s[(i:Int).toNat]?=some s[i]:=by simp[hi3]
   have hc2:s[((i+1:Nat):Int).toNat]?=some s[i+1]:=by rw[Int.toNat_natCast];simp[hi2]
   refine quiet (q_do _ (fun w=>nS (c:=s[i]) Tryz.underlying9 (Int.natCast_nonneg i) hc1) ?_);refine oP (.int .i64 (Lx.digit s[i])) (fun w hb=>uN (rD s[i] w) hb) ?_;refine q_do (.int .i64 ((i+1:Nat):Int)) (fun w=>by rw[Eg,hw1]) ?_;refine q_do _ (fun w=>nS (c:=s[i+1]) Tryz.underlying9 (Int.natCast_nonneg _) hc2) ?_;refine oP (.int .i64 (Lx.digit s[i+1])) (fun w hb=>uN (rD s[i+1] w) hb) ?_;intro w3 hb3;have ho:=ho.grow hb3;rw[HG hi2] at he;simp +contextual only[rs,gs];by_cases hbad:Lx.digit s[i] < 0∨Lx.digit s[i+1] < 0
   ·have hb:(decide (Lx.digit s[i] < 0)||decide (Lx.digit s[i+1] < 0))=true:=by simpa using hbad
    simp only[hb,i_t];rw[if_pos hbad] at he;exact hK _ _ ⟨by rw[pK he],ho.done⟩
   have hb:(decide (Lx.digit s[i] < 0)||decide (Lx.digit s[i+1] < 0))=false:=by simpa using hbad
   simp only[hb,i_f];rw[if_neg hbad] at he;rw[aC (n:=16*Lx.digit s[i]) (by omega) (by omega),aC (by omega) (by omega),c_8,gH (by omega) (by omega)];refine BB (Lx.byte (Lx.digit s[i]) (Lx.digit s[i+1])) (zP (by omega) (by omega) (by omega) (by omega)) ho (by omega) fun v' w4 ho=>?_;rw[aC (by omega) (by omega)];refine bG ⟨i+2,v',_,rfl,by omega,by omega,by simp;omega,?_,ho⟩ (by simp[n1,RowKit.intOf];omega);rw[he,Option.map_map]
   congr 1
   funext x;simp
  ·have hi2:i=s.length:=by omega
   subst hi2;simp only[hlt,decide_false,i_f];rw[EK 0 ho rfl];rw[List.drop_length,Lx.unhex,Option.map_some,List.append_nil] at he;exact hK _ _ ⟨by rw[uB he],ho.done⟩
theorem Lz (p l:List UInt8):p.isPrefixOf l=(decide (p.length≤l.length)&&decide (l.take p.length=p)):=by
 rw[Bool.eq_iff_iff,List.isPrefixOf_iff_prefix,List.prefix_iff_eq_take];simp only[Bool.and_eq_true,decide_eq_true_eq];constructor
 ·intro h;have:=congrArg List.length h;rw[List.length_take] at this;exact⟨by omega,h.symm⟩
 ·intro h;exact h.2.symm
theorem FE (s p:List UInt8)(k:Int)(w:World)(hs:s.length≤1099511627776):Ret prog 66 #[.string ⟨s.toArray⟩,.string ⟨p.toArray⟩,.int .i64 k] w (fun v w'=>v=.bool (bB s p k)∧w=w'):=by
 refine aO fun K hK=>rP ?_;unfold eZ;by_cases h1:0≤k
 ·simp only[rs,h1,decide_true,bD Tryz.underlying9];by_cases h2:k≤(s.length:Int)
  ·simp only[rs,h2,decide_true,bD Tryz.underlying9];rw[aC (by omega) (by omega)];have hpt:=Lz p (s.drop k.toNat);rw[List.length_drop] at hpt;by_cases h3:(p.length:Int)≤(s.length:Int) - k
   ·simp only[rs,h3,decide_true,bD Tryz.underlying9];rw[aC (by omega) (by omega),Ic Tryz.underlying9 h1 (by omega) (by omega),show (k+(p.length:Int)).toNat - k.toNat=p.length by omega];simp only[rs];rw[decide_eq_true (show p.length≤s.length - k.toNat by omega),Bool.true_and] at hpt;exact hK _ _ ⟨by simp only[bB,h1,h2,decide_true,Bool.true_and,hpt],rfl⟩
   ·simp only[rs,h3,decide_false,g_un];rw[decide_eq_false (show ¬p.length≤s.length - k.toNat by omega),Bool.false_and] at hpt;exact hK _ _ ⟨by simp only[bB,h1,h2,decide_true,Bool.true_and,hpt],rfl⟩
  ·simp only[rs,h2,decide_false,g_un];exact hK _ _ ⟨by simp[bB,h2],rfl⟩
 ·simp only[rs,h1,decide_false,g_un];exact hK _ _ ⟨by simp[bB,h1],rfl⟩
theorem JR (s:List UInt8)(k:Nat)(hk:k < s.length)(h:s[k]≠13):bB s [13,10] (k:Int)=false:=by
 unfold bB;rw[Int.toNat_natCast,Lx.drop_cons hk];have:((13:UInt8)==s[k])=false:=by simpa using fun e:13=s[k]=>h e.symm
 simp[List.isPrefixOf,this]
theorem OO (s:List UInt8)(k:Nat)(w:World)(hk:k≤s.length)(hs:s.length≤1099511627776):Ret prog 41 #[.string ⟨s.toArray⟩,.int .i64 k] w (fun v w'=>v=.int .i64 (Lx.line s k)∧w=w'):=by
 refine aO fun K hK=>wL ?_;unfold iN;have h0:¬((k:Int) < 0):=by omega
 have h1:¬((s.length:Int) < (k:Int)):=by omega
 simp only[rs,h0,h1,decide_false,bD Tryz.underlying9];refine loop (fun vs w'=>∃(i:Nat),vs=[.int .i64 i]∧i≤s.length∧Lx.line s i=Lx.line s k∧w=w') (fun vs _=>s.length - n0 vs) ⟨k,rfl,hk,rfl,rfl⟩ ?_;rintro vs w2 ⟨i,rfl,hi,he,rfl⟩ _;simp only[mG,gd,bD Tryz.underlying9];rw[rF];by_cases hlt:(i:Int) < (s.length:Int)
 ·have hi2:i < s.length:=by omega
  simp only[hlt,decide_true,i_t];have hd:=Lx.drop_cons hi2;have e1:=u8d s[i] 13 13 rfl;have e2:=u8d s[i] 10 10 rfl;refine c_eq (FE s [13,10] i w hs) ?_;by_cases g2:s[i]=13
  ·rw[FU s i hi2 g2];have g1:¬s[i]=10:=by rw[g2];decide
   by_cases g3:(s.drop (i+1)).head?=some 10
   ·simp only[decide_eq_true g3,i_t,rs];rw[aC (by omega) (by omega)];refine hK _ _ ⟨?_,rfl⟩;rw[←he,Lx.line,hd,Lx.cY,if_neg g1,if_pos g2,if_pos g3];simp
   ·simp only[decide_eq_false g3,i_f,s_at hi2,rs,e1,decide_eq_true g2,g_un];rw[aC (by omega) (by omega)];refine hK _ _ ⟨?_,rfl⟩;rw[←he,Lx.line,hd,Lx.cY,if_neg g1,if_pos g2,if_neg g3];simp
  rw[JR s i hi2 g2];simp only[i_f,s_at hi2,rs,e1,decide_eq_false g2];by_cases g1:s[i]=10
  ·simp only[rs,s_at hi2,e2,decide_eq_true g1];rw[aC (by omega) (by omega)];refine hK _ _ ⟨?_,rfl⟩;rw[←he,Lx.line,hd,Lx.cY,if_pos g1];simp
  simp only[rs,s_at hi2,e2,decide_eq_false g1];rw[aC (by omega) (by omega)];refine bG ⟨i+1,rfl,by omega,?_,rfl⟩ (by simp[n0,RowKit.intOf];omega);rw[←he];simp only[Lx.line];rw[hd,Lx.cY,if_neg g1,if_neg g2];omega
 ·have hi2:i=s.length:=by omega
  subst hi2;simp only[hlt,decide_false,i_f];refine hK _ _ ⟨?_,rfl⟩;rw[←he,Lx.line,List.drop_length];simp[Lx.cY]
theorem Cf (s:List UInt8)(k:Int)(w:World)(hs:s.length≤1099511627776):Ret prog 17 #[.string ⟨s.toArray⟩,.int .i64 k] w (fun v w'=>v=.int .i64 (Lx.eM s k)∧w=w'):=by
 refine aO fun K hK=>vE ?_;unfold iL;by_cases h0:k < 0
 ·simp only[rs,h0,decide_true,g_un];exact hK _ _ ⟨by rw[Lx.eM,if_pos (.inl h0)],rfl⟩
 simp only[rs,h0,decide_false,bD Tryz.underlying9];by_cases h1:(s.length:Int) < k
 ·simp only[rs,h1,decide_true];exact hK _ _ ⟨by rw[Lx.eM,if_pos (.inr h1)],rfl⟩
 simp only[rs,h1,decide_false];have hsk:Lx.eM s k=((Lx.skip s k.toNat:Nat):Int):=by rw[Lx.eM,if_neg (by omega)]
 refine loop (fun vs w'=>∃(i:Nat),vs=[.int .i64 i]∧i≤s.length∧Lx.skip s i=Lx.skip s k.toNat∧w=w') (fun vs _=>s.length - n0 vs) ⟨k.toNat,by rw[Int.toNat_of_nonneg (by omega)],by omega,rfl,rfl⟩ ?_;rintro vs w2 ⟨i,rfl,hi,he,rfl⟩ _;simp only[lZ,gd,bD Tryz.underlying9];rw[rF];by_cases hlt:(i:Int) < (s.length:Int)
 ·have hi2:i < s.length:=by omega
  have hd:=Lx.drop_cons hi2;simp only[hlt,decide_true,i_t,s_at hi2];have e1:=u8d s[i] 37 37 rfl;have hL:=Lx.Ci (s.drop i);have hP:=Lx.Bz s[i] (s.drop (i+1));rw[←hd] at hP;rw[List.length_drop] at hL;by_cases g1:s[i]=37
  ·simp only[rs,e1,decide_eq_true g1];refine c_eq (OO s i w (by omega) hs) ?_;refine bG ⟨Lx.line s i,rfl,by unfold Lx.line;omega,?_,rfl⟩ (by simp[n0,RowKit.intOf,Lx.line];omega);rw[←he];simp only[Lx.skip];have e2:Lx.cU false (s.drop i)=Lx.cY (s.drop i)+Lx.cU false ((s.drop i).drop (Lx.cY (s.drop i))):=by
    rw[hd,Lx.cU,if_pos g1,Lx.HD,Lx.cY,if_neg (by rw[g1];decide),if_neg (by rw[g1];decide),Nat.add_comm 1 (Lx.cY _),List.drop_succ_cons];omega
   rw[e2,List.drop_drop,Lx.line];omega
  simp only[rs,e1,decide_eq_false g1,s_at hi2];refine c_eq (nX s[i] w) ?_;cases hw:Oc.gE s[i] with
 |true=>
   simp only[rs];rw[aC (by omega) (by omega)];refine bG ⟨i+1,rfl,by omega,?_,rfl⟩ (by simp[n0,RowKit.intOf];omega);rw[←he];simp only[Lx.skip];rw[hd,Lx.cU,if_neg g1,if_pos hw];omega
 |false=>
   simp only[rs];refine hK _ _ ⟨?_,rfl⟩;rw[hsk,←he,Lx.skip,hd,Lx.cU,if_neg g1,if_neg (by simp[hw])];simp
 ·have hi2:i=s.length:=by omega
  subst hi2;simp only[hlt,decide_false,i_f];refine hK _ _ ⟨?_,rfl⟩;rw[hsk,←he,Lx.skip,List.drop_length];simp[Lx.cU]
end
end Go.Proofs.YtoofficgclghoaaGreatDoor



namespace Go.Proofs.YtoofficgclghoaaGreatDoor
section
open Eng Go.RowKit
theorem MQ (s:List UInt8)(i:Nat)(w:World)(hs:s.length≤1099511627776)(h:i≤s.length):Ret prog 67 #[.string ⟨s.toArray⟩,.int .i64 i] w (fun v w'=>v=.int .i64 (Lx.run s i)∧w=w'):=by
 refine aO fun K hK=>xW ?_;unfold jG;refine loop (fun vs w'=>∃(j:Nat),vs=[.int .i64 j]∧j≤s.length∧Lx.run s j=Lx.run s i∧w=w') (fun vs _=>s.length - n0 vs) ⟨i,rfl,h,rfl,rfl⟩ ?_;rintro vs w2 ⟨j,rfl,hj,he,rfl⟩ _;simp only[nH,gd,bD Tryz.underlying9];rw[rF];by_cases hlt:(j:Int) < (s.length:Int)
 ·have hi2:j < s.length:=by omega
  have hd:=Lx.drop_cons hi2;simp only[hlt,decide_true,rs,s_at hi2];refine c_eq (JP s[j] w) ?_;cases hr:Oc.regular s[j] with
 |true=>
   simp only[rs];rw[aC (by omega) (by omega)];refine bG ⟨j+1,rfl,by omega,?_,rfl⟩ (by simp[n0,RowKit.intOf];omega);rw[←he,Lx.run,Lx.run,hd,Lx.runF,if_pos hr];omega
 |false=>
   simp only[rs];refine hK _ _ ⟨?_,rfl⟩;rw[←he,Lx.run,hd,Lx.runF,if_neg (by simp[hr])];simp
 ·have hi2:j=s.length:=by omega
  subst hi2;simp only[hlt,decide_false,rs,g_un];refine hK _ _ ⟨?_,rfl⟩;rw[←he,Lx.run,List.drop_length];simp[Lx.runF]
theorem QH {s:List UInt8}{p:UInt8→Bool}{i:Nat}(h:i < s.length):(s.drop i).all p=(p s[i]&&(s.drop (i+1)).all p):=by
 rw[Lx.drop_cons h,List.all_cons]
theorem Dx (s:List UInt8)(w:World)(hs:s.length≤1099511627776):Ret prog 116 #[.string ⟨s.toArray⟩] w (fun v w'=>v=.bool (Lx.cR s)∧w=w'):=by
 refine aO fun K hK=>qM ?_;unfold eD;refine join fun J hJ=>?_;have fin:J [.string ⟨(Lx.bE s).toArray⟩] w:=by
  refine hJ _ _ fun _=>?_;simp only[gd];have hu:(Lx.bE s).length≤s.length:=by
   cases s with
  |nil=>simp[Lx.bE]
  |cons c t=>simp only[Lx.bE];split<;>simp
  have hI:Lx.cR s=(!(Lx.bE s).isEmpty&&(Lx.bE s).all Lx.dig):=rfl;rw[hI] at hK;generalize Lx.bE s=u at *;unfold iV;refine loop (fun vs w'=>∃(i:Nat),vs=[.int .i64 i]∧i≤u.length∧u.all Lx.dig=(u.drop i).all Lx.dig∧w=w') (fun vs _=>u.length - n0 vs) ⟨0,rfl,by omega,rfl,rfl⟩ ?_;rintro vs w2 ⟨i,rfl,hi,he,rfl⟩ _;simp only[iU,gd,bD Tryz.underlying9];rw[rF];by_cases hlt:(i:Int) < (u.length:Int)
  ·have hi2:i < u.length:=by omega
   have hne:u.isEmpty=false:=by cases u with|nil=>simp at hi2|cons=>rfl
   simp only[hlt,decide_true,i_t,s_at hi2];rw[QH hi2] at he;by_cases h1:(u[i].toNat:Int) < 48
   ·simp only[rs,h1,decide_true,g_un];have hd:Lx.dig u[i]=false:=by simp[Lx.dig];omega
    exact hK _ _ ⟨by rw[he,hd,hne];rfl,rfl⟩
   ·by_cases h2:(57:Int) < (u[i].toNat:Int)
    ·simp only[rs,h1,decide_false,s_at hi2,h2,decide_true];have hd:Lx.dig u[i]=false:=by simp[Lx.dig];omega
     exact hK _ _ ⟨by rw[he,hd,hne];rfl,rfl⟩
    ·simp only[rs,h1,decide_false,s_at hi2,h2];have hd:Lx.dig u[i]=true:=by simp[Lx.dig];omega
     rw[hd,Bool.true_and] at he;rw[aC (by omega) (by omega)];exact bG ⟨i+1,rfl,by omega,he,rfl⟩ (by simp[n0,RowKit.intOf];omega)
  ·have hi2:i=u.length:=by omega
   rw[show (⟨#[]⟩:ByteArray)=⟨([]:List UInt8).toArray⟩ from rfl];simp only[hlt,decide_false,i_f,rs];rw[hi2,List.drop_length,List.all_nil] at he;refine hK _ _ ⟨?_,rfl⟩;rw[he,Bool.and_true];cases u with
  |nil=>rfl
  |cons=>rfl
 rw[show (⟨#[]⟩:ByteArray)=⟨([]:List UInt8).toArray⟩ from rfl];cases s with
|nil=>
  simp only[rs,ne_eq,not_true,decide_false,g_un];exact fin
|cons c t=>
  have hx:∀{PK K},DoX prog (mIx 9 (.string ⟨(c::t).toArray⟩) (.int .i64 0)) w PK K=K (.int .u8 (c.toNat:Int)) w:=s_ix (c:=c) Tryz.underlying9 (by omega) rfl;have e1:=u8d c 43 43 rfl;have e2:=u8d c 45 45 rfl;have hne:((c::t)≠([]:List UInt8)):=List.cons_ne_nil _ _;simp only[rs,decide_eq_true hne,hx,e1];by_cases h1:c=43
  ·simp only[rs,decide_eq_true h1,g_un];rw[B2 Tryz.underlying9 (by omega) (by simp;omega)];have:Lx.bE (c::t)=t:=by simp[Lx.bE,Lx.sgn,h1]
   rw[this] at fin;exact fin
  ·simp only[rs,decide_eq_false h1,hx,e2];by_cases h2:c=45
   ·simp only[rs,decide_eq_true h2];rw[B2 Tryz.underlying9 (by omega) (by simp;omega)];have:Lx.bE (c::t)=t:=by simp[Lx.bE,Lx.sgn,h2]
    rw[this] at fin;exact fin
   ·simp only[rs,decide_eq_false h2];have:Lx.bE (c::t)=c::t:=by simp[Lx.bE,Lx.sgn,h1,h2]
    rw[this] at fin;exact fin
theorem UL (l:List UInt8):∀n,n≤Lx.val n l:=by
 induction l with
|nil=>intro n;unfold Lx.val;exact Nat.le_refl n
|cons c t ih=>
  intro n;have h:=ih (10*n+(c.toNat - 48));unfold Lx.val at h ⊢;rw[List.foldl_cons];omega
theorem Hx (s:List UInt8)(w:World)(hs:s.length≤1099511627776)(hf:Lx.cR s=true):Ret prog 117 #[.string ⟨s.toArray⟩] w (fun v w'=>v=pair (Lx.whole s)∧w=w'):=by
 refine aO fun K hK=>tB ?_;unfold fK;have hall:(Lx.bE s).all Lx.dig=true:=by
  rw[Lx.cR,Bool.and_eq_true] at hf;exact hf.2
 obtain⟨c,t,rfl⟩:∃c t,s=c::t:=by
  cases s with
 |nil=>simp[Lx.cR,Lx.bE] at hf
 |cons c t=>exact⟨c,t,rfl⟩
 have hd1:∀x∈t,Lx.dig x=true:=by
  intro x hx;refine List.all_eq_true.1 hall x ?_;cases hc:Lx.sgn c with
 |true=>simpa[Lx.bE,hc] using hx
 |false=>simp[Lx.bE,hc,hx]
 have hd0:Lx.sgn c=false→Lx.dig c=true:=by
  intro hc;refine List.all_eq_true.1 hall c ?_;simp[Lx.bE,hc]
 have ns:∀x,Lx.dig x=true→Lx.sgn x=false:=by
  intro x hx;cases h:Lx.sgn x with
 |false=>rfl
 |true=>rw[AV x h] at hx;cases hx
 have hval:∀i,1≤i→i≤(c::t).length→∀hi:i < (c::t).length,Lx.dig (c::t)[i]=true:=by
  intro i h1 _ hi;obtain⟨j,rfl⟩:∃j,i=j+1:=⟨i - 1,by omega⟩;rw[List.getElem_cons_succ];exact hd1 _ (List.getElem_mem _)
 -- what stands behind i
 let rest (i:Nat):List UInt8:=if i=0 then Lx.bE (c::t) else (c::t).drop i
 refine loop (fun vs w'=>∃(i n:Nat),vs=[.int .i64 n,.int .i64 i]∧i≤(c::t).length∧n≤2147483647∧Lx.val 0 (Lx.bE (c::t))=Lx.val n (rest i)∧w=w') (fun vs _=>(c::t).length - n1 vs) ⟨0,0,rfl,by omega,by omega,rfl,rfl⟩ ?_;rintro vs w2 ⟨i,n,rfl,hi,hn,he,rfl⟩ _;simp only[kI,gd,bD Tryz.underlying9];rw[rF];by_cases hlt:(i:Int) < ((c::t).length:Int)
 ·have hi2:i < (c::t).length:=by omega
  simp only[hlt,decide_true,i_t];refine join fun J hJ=>?_;simp only[s_at hi2];have e1:=u8d (c::t)[i] 43 43 rfl;have e2:=u8d (c::t)[i] 45 45 rfl;have go:∀n':Nat,n'≤2147483647→Lx.val 0 (Lx.bE (c::t))=Lx.val n' ((c::t).drop (i+1))→J [.int .i64 n'] w:=by
   intro n' h1 h2;refine hJ _ _ fun _=>?_;simp only[kR,gd,rs];rw[aC (by omega) (by omega)];exact bG ⟨i+1,n',rfl,by omega,h1,h2,rfl⟩ (by simp[n1,RowKit.intOf] at hi2 ⊢;omega)
  have skip:Lx.sgn (c::t)[i]=true→J [.int .i64 n] w:=by
   intro h;rcases Nat.eq_zero_or_pos i with rfl|h0
   ·refine go n hn ?_;rw[he];have hc:Lx.sgn c=true:=h;simp[rest,Lx.bE,hc]
   ·rw[ns _ (hval i h0 hi hi2)] at h;cases h
  by_cases h1:(c::t)[i]=43
  ·simp only[rs,e1,decide_eq_true h1,g_un];exact skip (by rw[h1];rfl)
  simp only[rs,e1,decide_eq_false h1,s_at hi2];by_cases h2:(c::t)[i]=45
  ·simp only[rs,e2,decide_eq_true h2];exact skip (by rw[h2];rfl)
  simp only[rs,e2,decide_eq_false h2,s_at hi2];have hsg:Lx.sgn (c::t)[i]=false:=by simp only[Lx.sgn,h1,h2,decide_false,Bool.or_false]
  have hdg:Lx.dig (c::t)[i]=true:=by
   rcases Nat.eq_zero_or_pos i with rfl|h0
   ·exact hd0 hsg
   ·exact hval i h0 hi hi2
  have hd2:48≤(c::t)[i].toNat∧(c::t)[i].toNat≤57:=by simpa[Lx.dig] using hdg
  have hrest:rest i=(c::t)[i]::(c::t).drop (i+1):=by
   rcases Nat.eq_zero_or_pos i with rfl|h0
   ·have hc:Lx.sgn c=false:=hsg;simp[rest,Lx.bE,hc]
   ·simp only[rest,if_neg (show ¬i=0 by omega)];exact Lx.drop_cons hi2
  have hstep:Lx.val n (rest i)=Lx.val (10*n+((c::t)[i].toNat - 48)) ((c::t).drop (i+1)):=by
   rw[hrest];unfold Lx.val;rw[List.foldl_cons]
  rw[aC (n:=10*(n:Int)) (by omega) (by omega),H4 (show (Tryz.prog.underlying 5).isSome=true by kernel_rfl) Tryz.underlying2,aC (n:=((c::t)[i].toNat:Int)) (by omega) (by omega)];simp only[rs];rw[aC (n:=10*(n:Int)+((c::t)[i].toNat:Int)) (by omega) (by omega),aC (by omega) (by omega)];rw[show 10*(n:Int)+((c::t)[i].toNat:Int) - 48=((10*n+((c::t)[i].toNat - 48):Nat):Int) by omega];by_cases hbig:(2147483647:Int) < ((10*n+((c::t)[i].toNat - 48):Nat):Int)
  ·simp only[hbig,decide_true,i_t];have hv:=UL ((c::t).drop (i+1)) (10*n+((c::t)[i].toNat - 48));exact hK _ _ ⟨by rw[Lx.whole,if_pos (by rw[he,hstep];omega)],rfl⟩
  ·simp only[hbig,decide_false,i_f];exact go _ (by omega) (by rw[he,hstep])
 ·have hi2:i=(c::t).length:=by omega
  simp only[hlt,decide_false,i_f];have hr:rest i=[]:=by
   simp only[rest,if_neg (show ¬i=0 by rw[hi2];simp)];rw[hi2,List.drop_length]
  rw[hr] at he;have he:Lx.val 0 (Lx.bE (c::t))=n:=he;refine join fun J hJ=>?_;rw[s_ix (c:=c) Tryz.underlying9 (by omega) rfl];have e1:=u8d c 45 45 rfl;by_cases h45:c=45
  ·simp only[rs,e1,decide_eq_true h45];refine hJ _ _ fun _=>?_;simp only[eH,gd];rw[aC (by omega) (by omega)];exact hK _ _ ⟨by rw[Lx.whole,if_neg (by omega),if_pos (by rw[h45];rfl),he],rfl⟩
  ·simp only[rs,e1,decide_eq_false h45];refine hJ _ _ fun _=>?_;simp only[eH,gd];exact hK _ _ ⟨by rw[Lx.whole,if_neg (by omega),if_neg (by simpa using h45),he],rfl⟩
end
section
open Eng Go.RowKit
theorem Nc (s:List UInt8)(w:World)(hs:s.length≤1099511627776):Ret prog 118 #[.string ⟨s.toArray⟩] w (fun v w'=>v=.bool (s.contains 46)∧w=w'):=by
 refine aO fun K hK=>sK ?_;unfold fY;refine loop (fun vs w'=>∃(i:Nat),vs=[.int .i64 i]∧i≤s.length∧s.contains 46=(s.drop i).contains 46∧w=w') (fun vs _=>s.length - n0 vs) ⟨0,rfl,by omega,rfl,rfl⟩ ?_;rintro vs w2 ⟨i,rfl,hi,he,rfl⟩ _;simp only[kE,gd,bD Tryz.underlying9];rw[rF];by_cases hlt:(i:Int) < (s.length:Int)
 ·have hi2:i < s.length:=by omega
  simp only[hlt,decide_true,i_t,s_at hi2];rw[Lx.drop_cons hi2,List.contains_cons] at he;have e1:=u8d s[i] 46 46 rfl;by_cases h:s[i]=46
  ·simp only[rs,e1,decide_eq_true h];exact hK _ _ ⟨by rw[he,h];rfl,rfl⟩
  ·simp only[rs,e1,decide_eq_false h];have hb:((46:UInt8)==s[i])=false:=by simpa using fun e:46=s[i]=>h e.symm
   rw[hb,Bool.false_or] at he;rw[aC (by omega) (by omega)];exact bG ⟨i+1,rfl,by omega,he,rfl⟩ (by simp[n0,RowKit.intOf];omega)
 ·have hi2:i=s.length:=by omega
  simp only[hlt,decide_false,i_f];rw[hi2,List.drop_length] at he;exact hK _ _ ⟨by rw[he];rfl,rfl⟩
def mY (t:List UInt8):Lx.Tok×Int:=
 if Lx.cR t then (⟨1,0,0,(Lx.whole t).1,[]⟩,(Lx.whole t).2)
 else if t.contains 46∧((Fx.read t).2=0∨(Fx.read t).2=2) then (⟨2,0,0,(Fx.read t).1,[]⟩,(Fx.read t).2)
 else if 127 < t.length then Lx.refused 5
 else (⟨5,0,0,0,t⟩,0)
theorem KS (t:List UInt8)(a r:Int):Lx.oL t a r=if (mY t).2≠0 then Lx.refused (mY t).2 else ({ (mY t).1 with a:=a,t:=r },0):=by
 by_cases h1:Lx.cR t=true
 ·have hW:mY t=(⟨1,0,0,(Lx.whole t).1,[]⟩,(Lx.whole t).2):=by rw[mY,if_pos h1]
  rw[hW,Lx.oL,if_pos h1]
 by_cases h2:t.contains 46=true∧(Fx.read t).2=0
 ·have hW:mY t=(⟨2,0,0,(Fx.read t).1,[]⟩,0):=by rw[mY,if_neg h1,if_pos ⟨h2.1,.inl h2.2⟩,h2.2]
  rw[hW,Lx.oL,if_neg h1,if_pos h2];simp
 by_cases h3:t.contains 46=true∧(Fx.read t).2=2
 ·have hW:mY t=(⟨2,0,0,(Fx.read t).1,[]⟩,2):=by rw[mY,if_neg h1,if_pos ⟨h3.1,.inr h3.2⟩,h3.2]
  rw[hW,Lx.oL,if_neg h1,if_neg h2,if_pos h3];simp
 have hn:¬(t.contains 46=true∧((Fx.read t).2=0∨(Fx.read t).2=2)):=by
  rintro⟨h,h'|h'⟩
  ·exact h2 ⟨h,h'⟩
  ·exact h3 ⟨h,h'⟩
 rw[Lx.oL,if_neg h1,if_neg h2,if_neg h3,Lx.told];by_cases h4:127 < t.length
 ·have hW:mY t=Lx.refused 5:=by rw[mY,if_neg h1,if_neg hn,if_pos h4]
  rw[hW,if_pos (by omega)];simp[Lx.refused]
 ·have hW:mY t=(⟨5,0,0,0,t⟩,0):=by rw[mY,if_neg h1,if_neg hn,if_neg h4]
  rw[hW,if_neg (by omega)];simp
theorem Po {t:List UInt8}(h:508 < t.length):(Fx.read t).2=3:=by
 rw[Fx.read,if_neg];simp[Fx.form];omega
section
variable {w:World}{PK:PKT}{K:VWP}
theorem K3 {k n:Int}:DoX prog (aG 53 #[(0,.int .i64 k),(3,.int .i64 n)]) w PK K=K (tokV ⟨k,0,0,n,[]⟩) w:=aT (by kernel_rfl)
theorem Tq {k:Int}{s:List UInt8}:DoX prog (aG 53 #[(0,.int .i64 k),(4,.string ⟨s.toArray⟩)]) w PK K=K (tokV ⟨k,0,0,0,s⟩) w:=aT (by kernel_rfl)
theorem Sb {k a t:Int}:DoX prog (aG 53 #[(0,.int .i64 k),(1,.int .i64 a),(2,.int .i64 t)]) w PK K=K (tokV ⟨k,a,t,0,[]⟩) w:=aT (by kernel_rfl)
end
theorem OW (s:List UInt8)(w:World)(hs:s.length≤1099511627776)(hl:508 < s.length):Ret prog 115 #[.string ⟨s.toArray⟩] w (fun v w'=>v=tokR (mY s)∧Below w.heap.size w w'):=by
 refine aO fun K hK=>wR ?_;unfold iH;refine jY (Own.start w) fun b w1 ho=>?_;refine c_eq (Dx s w1 hs) ?_;by_cases hi:Lx.cR s=true
 ·simp only[hi,rs,Bool.not_true];refine c_eq (Hx s w1 hs hi) ?_;simp only[pair,ex,K3];exact cM 0 ho rfl fun w' ho=>hK _ _ ⟨by rw[mY,if_pos hi],ho.done⟩
 ·have hi':Lx.cR s=false:=by simpa using hi
  simp only[hi',rs,Bool.not_false,BV];refine cM 0 ho rfl fun w' ho=>hK _ _ ⟨?_,ho.done⟩;rw[mY,if_neg hi,if_neg (by rw[Po hl];rintro⟨_,h|h⟩<;>cases h),if_pos (by omega)];rfl
 attribute [local congr] iA in
theorem OH (s:List UInt8)(w:World)(hs:s.length≤1099511627776):Ret prog 71 #[.string ⟨s.toArray⟩] w (fun v w'=>v=tokR (mY s)∧Below w.heap.size w w'):=by
  refine aO fun K hK=>vY ?_;unfold iG;refine jY (Own.start w) fun b w1 ho=>?_;by_cases hl:(508:Int) < (s.length:Int)
  ·simp only[bD Tryz.underlying9,rs,hl,decide_true];exact bX 0 ho rfl (OW s w1 hs (by omega)) fun w' hb=>hK _ _ ⟨rfl,hb⟩
  simp only[bD Tryz.underlying9,rs,hl,decide_false];refine c_eq (Dx s w1 hs) ?_;by_cases hi:Lx.cR s=true
  ·simp only[hi,i_t];refine c_eq (Hx s w1 hs hi) ?_;simp only[pair,ex,K3];exact cM 0 ho rfl fun w' ho=>hK _ _ ⟨by rw[mY,if_pos hi],ho.done⟩
  have hi':Lx.cR s=false:=by simpa using hi
  simp only[hi',i_f];refine join fun J hJ=>?_;have fin:∀w2 n,Own w w2 [tokE b Lx.none_]→¬(s.contains 46=true∧((Fx.read s).2=0∨(Fx.read s).2=2))→J [.int .i64 n] w2:=by
   intro w2 n ho hn;refine hJ _ _ fun _=>?_;simp only[mE,bD Tryz.underlying9,rs];by_cases h:(127:Int) < (s.length:Int)
   ·simp only[h,decide_true,i_t,BV];exact cM 0 ho rfl fun w' ho=>hK _ _ ⟨by rw[mY,if_neg hi,if_neg hn,if_pos (by omega)];rfl,ho.done⟩
   ·simp only[h,decide_false,i_f,Tq];exact cM 0 ho rfl fun w' ho=>hK _ _ ⟨by rw[mY,if_neg hi,if_neg hn,if_neg (by omega)],ho.done⟩
  refine c_eq (Nc s w1 hs) ?_;by_cases hp:s.contains 46=true
  ·simp only[hp,i_t];refine aS ho (Ql s w1 (by omega)) ?_;rintro _ w2 rfl ho;simp only[pair,ex];by_cases h1:(Fx.read s).2=0∨(Fx.read s).2=2
   ·have hb:(decide ((Fx.read s).2=0)||decide ((Fx.read s).2=2))=true:=by simpa using h1
    simp +contextual only[rs,gs,hb,i_t,K3];exact cM 0 ho rfl fun w' ho=>hK _ _ ⟨by rw[mY,if_neg hi,if_pos ⟨hp,h1⟩],ho.done⟩
   ·have hb:(decide ((Fx.read s).2=0)||decide ((Fx.read s).2=2))=false:=by simpa using h1
    simp +contextual only[rs,gs,hb,i_f];exact fin _ _ ho fun h=>h1 h.2
  ·have hp':s.contains 46=false:=by simpa using hp
   simp only[hp',i_f];exact fin _ _ ho fun h=>hp h.1
def GH (t:List UInt8):List UInt8×Int:=match Lx.dJ t with
|none=>([],3)
|some x=>if 127 < x.length then ([],5) else (x,0)
theorem NW {t:List UInt8}{i:Nat}(h:i < t.length)(h35:t[i]=35):Lx.dJ (t.drop i)=if h2:i+2 < t.length then (if Lx.digit t[i+1] < 0∨Lx.digit t[i+2] < 0∨16*Lx.digit t[i+1]+Lx.digit t[i+2]=0 then none else (Lx.dJ (t.drop (i+3))).map (Lx.byte (Lx.digit t[i+1]) (Lx.digit t[i+2])::·)) else none:=by
 rw[Lx.drop_cons h];by_cases h2:i+2 < t.length
 ·rw[dif_pos h2,Lx.drop_cons (show i+1 < t.length by omega),Lx.drop_cons (show i+1+1 < t.length by omega),Lx.dJ,if_pos h35]
 ·rw[dif_neg h2];cases hd:t.drop (i+1) with
 |nil=>simp[Lx.dJ,h35]
 |cons x u=>
   cases u with
  |nil=>simp[Lx.dJ,h35]
  |cons y u=>
    have:=congrArg List.length hd;simp at this;omega
 attribute [local congr] iA in
theorem NJ (t:List UInt8)(w:World)(hs:t.length≤1099511627776):Ret prog 68 #[.string ⟨t.toArray⟩] w (fun v w'=>v=.tuple #[.string ⟨(GH t).1.toArray⟩,.int .i64 (GH t).2]∧Below w.heap.size w w'):=by
  refine aO fun K hK=>vR ?_;unfold gQ;refine loop (fun vs w'=>∃(i:Nat) (v:Value) (acc:List UInt8),vs=[v,.int .i64 i]∧i≤t.length∧acc.length≤i∧Lx.dJ t=(Lx.dJ (t.drop i)).map (acc++·)∧Own w w' [BRow v acc])
   (fun vs _=>t.length - n1 vs) ⟨0,_,[],rfl,by omega,by simp,by simp,(Own.start w).Az _ 1⟩ ?_
  rintro vs w4 ⟨i,v,acc,rfl,hi,hacc,he,ho⟩ _;simp only[lU,gd,bD Tryz.underlying9];rw[rF];have bad:∀{w5},Own w w5 [BRow v acc]→Lx.dJ (t.drop i)=none→K (.returned (.tuple #[.string ⟨#[]⟩,.int .i64 3])) w5:=by
   intro w5 ho hn;rw[hn] at he;exact hK _ _ ⟨by rw[GH,he];rfl,ho.done⟩
  by_cases hlt:(i:Int) < (t.length:Int)
  ·have hi3:i < t.length:=by omega
   simp only[hlt,decide_true,i_t,s_at hi3];have e1:=u8d t[i] 35 35 rfl;refine join fun J hJ=>?_;have fin:∀(j:Nat) (c:UInt8) (n:Int) (w5:World),(c.toNat:Int)=n→i≤j→j < t.length→Lx.dJ t=(Lx.dJ (t.drop (j+1))).map (acc++c::·)→Own w w5 [BRow v acc]→J [.int .i64 j,.int .u8 n] w5:=by
    intro j c n w5 hc hij hjt he ho;refine hJ _ _ fun _=>?_;simp only[lX,gd];refine BB c hc ho (by omega) fun v' w6 ho=>?_;rw[CX,aC (by omega) (by omega)];refine bG ⟨j+1,v',acc++[c],rfl,by omega,by simp;omega,?_,ho⟩ (by simp[n1,RowKit.intOf];omega);rw[he]
    congr 1
    funext x;simp
   by_cases h35:t[i]=35
   ·simp only[rs,e1,decide_eq_true h35,bD Tryz.underlying9];rw[aC (by omega) (by omega)];have hnf:=NW hi3 h35;by_cases hend:(t.length:Int)≤(i:Int)+2
    ·simp only[hend,decide_true,i_t];rw[dif_neg (by omega)] at hnf;exact bad ho hnf
    ·simp only[hend,decide_false,i_f];have hi6:i+2 < t.length:=by omega
     have hi5:i+1 < t.length:=by omega
     rw[dif_pos hi6] at hnf;have b1:=Lx.nP t[i+1];have b2:=Lx.nP t[i+2];have hw1:IntKind.wrap .i64 ((i:Int)+1)=((i+1:Nat):Int):=by rw[aC (by omega) (by omega)];omega
     have hw2:IntKind.wrap .i64 ((i:Int)+2)=((i+2:Nat):Int):=by rw[aC (by omega) (by omega)];omega
     have hc1:t[((i+1:Nat):Int).toNat]?=some t[i+1]:=by rw[Int.toNat_natCast];simp[hi5]
     have hc2:t[((i+2:Nat):Int).toNat]?=some t[i+2]:=by rw[Int.toNat_natCast];simp[hi6]
     refine quiet (q_do (.int .i64 ((i+1:Nat):Int)) (fun w=>by rw[Eg,hw1]) ?_);refine q_do _ (fun w=>nS (c:=t[i+1]) Tryz.underlying9 (Int.natCast_nonneg _) hc1) ?_;refine oP (.int .i64 (Lx.digit t[i+1])) (fun w hb=>uN (rD t[i+1] w) hb) ?_;refine q_do (.int .i64 ((i+2:Nat):Int)) (fun w=>by rw[Eg,hw2]) ?_;refine q_do _ (fun w=>nS (c:=t[i+2]) Tryz.underlying9 (Int.natCast_nonneg _) hc2) ?_;refine oP (.int .i64 (Lx.digit t[i+2])) (fun w hb=>uN (rD t[i+2] w) hb) ?_;intro w5 hb;have ho:=ho.grow hb;have hw3:IntKind.wrap .i64 (16*Lx.digit t[i+1])=16*Lx.digit t[i+1]:=aC (by omega) (by omega);have hw4:IntKind.wrap .i64 (16*Lx.digit t[i+1]+Lx.digit t[i+2])=16*Lx.digit t[i+1]+Lx.digit t[i+2]:=aC (by omega) (by omega);simp +contextual only[rs,gs,hw3,hw4];by_cases hbad:Lx.digit t[i+1] < 0∨Lx.digit t[i+2] < 0∨16*Lx.digit t[i+1]+Lx.digit t[i+2]=0
     ·have hb2:(decide (Lx.digit t[i+1] < 0)||decide (Lx.digit t[i+2] < 0)||decide (16*Lx.digit t[i+1]+Lx.digit t[i+2]=0))=true:=by
       simpa[or_assoc] using hbad
      simp only[hb2,i_t];rw[if_pos hbad] at hnf;exact bad ho hnf
     ·have hb2:(decide (Lx.digit t[i+1] < 0)||decide (Lx.digit t[i+2] < 0)||decide (16*Lx.digit t[i+1]+Lx.digit t[i+2]=0))=false:=by
       rw[Bool.or_eq_false_iff,Bool.or_eq_false_iff];simp only[decide_eq_false_iff_not];exact⟨⟨fun h=>hbad (.inl h),fun h=>hbad (.inr (.inl h))⟩,fun h=>hbad (.inr (.inr h))⟩
      simp only[hb2,i_f];rw[if_neg hbad] at hnf;have hb0:=zP (a:=Lx.digit t[i+1]) (b:=Lx.digit t[i+2]) (by omega) (by omega) (by omega) (by omega);rw[c_8,gH (by omega) (by omega)];refine fin (i+2) _ _ _ hb0 (by omega) (by omega) ?_ ho;rw[he,hnf,Option.map_map];rfl
   ·simp only[rs,e1,decide_eq_false h35];refine fin i t[i] _ _ rfl (by omega) hi3 ?_ ho;rw[he,Lx.drop_cons hi3,Lx.Es h35,Option.map_map];rfl
  ·have hi3:i=t.length:=by omega
   subst hi3;rw[List.drop_length,Lx.dJ,Option.map_some,List.append_nil] at he;simp only[hlt,decide_false,i_f,bF Tryz.underlying66 (ho.Dh 0 rfl),rs];by_cases h127:(127:Int) < (acc.length:Int)
   ·simp only[h127,decide_true,i_t];exact hK _ _ ⟨by rw[GH,he];simp only;rw[if_pos (by omega)],ho.done⟩
   ·simp only[h127,decide_false,i_f,EK 0 ho rfl];exact hK _ _ ⟨by rw[GH,he];simp only;rw[if_neg (by omega)],ho.done⟩
end
section
open Eng Go.RowKit
theorem UB {S:Nat→Prop}{w0 w:World}{L:List Ent}{v:Value}{l m:List UInt8}{cs:Array Bool}{PK:PKT}{K:VWP}
  (ho:OwnS S w0 w (BRow v l::L)) (hb:l.length+m.length≤140737488355328) (k:∀v' w',OwnS S w0 w' (BRow v' (l++m)::L)→K v' w') :
  DoX prog (mB .append #[66,9] 66 cs #[v,.string ⟨m.toArray⟩]) w PK K:=by
 refine DG 0 Tryz.underlying66 Tryz.underlying9 (show elB prog 5 1 1=true by kernel_rfl) Tryz.underlying5 (by kernel_rfl) ho rfl (by omega) fun v' w5 _ h5=>?_;refine k v' w5 ?_;have e:BRow v' (l++m)=.row 5 1 v' (l.length+m.length) (bS l++bS m):=by
  rw[BRow,jQ,List.length_append]
 rw[e];exact h5
def escs:List UInt8:=[110,114,116,98,102]
def escB:List UInt8:=[10,13,9,8,12]
theorem Sr:∀i:Fin 5,Lx.escL (escs[i.val]'(i.isLt))=some (escB[i.val]'(i.isLt)):=by decide
theorem PN (c:UInt8)(h:∀j (hj:j < 5),escs[j]'hj≠c):Lx.escL c=none:=by
 have h0:(110:UInt8)≠c:=h 0 (by decide);have h1:(114:UInt8)≠c:=h 1 (by decide);have h2:(116:UInt8)≠c:=h 2 (by decide);have h3:(98:UInt8)≠c:=h 3 (by decide);have h4:(102:UInt8)≠c:=h 4 (by decide);have n:∀x:UInt8,x≠c→¬c=x:=fun x hx e=>hx e.symm;rw[Lx.escL,if_neg (n _ h0),if_neg (n _ h1),if_neg (n _ h2),if_neg (n _ h3),if_neg (n _ h4)]
theorem KV (s:List UInt8)(a:Nat)(w:World)(hs:s.length≤1099511627776)(h:a+1 < s.length):Ret prog 113 #[.string ⟨s.toArray⟩,.int .i64 a] w (fun v w'=>v=.tuple #[.string ⟨(Lx.escF (s.drop (a+1))).1.toArray⟩,.int .i64 ((a+1+(Lx.escF (s.drop (a+1))).2:Nat):Int)]∧Below w.heap.size w w'):=by
 refine aO fun K hK=>rZ ?_;unfold fA;have hw:∀k:Nat,k≤100→IntKind.wrap .i64 ((a:Int)+(k:Int))=((a+k:Nat):Int):=fun k hk=>by rw[aC (by omega) (by omega)];omega
 have hw1:IntKind.wrap .i64 ((a:Int)+1)=((a+1:Nat):Int):=hw 1 (by omega);have hw2:IntKind.wrap .i64 ((a:Int)+2)=((a+2:Nat):Int):=hw 2 (by omega);have hw3:IntKind.wrap .i64 ((a:Int)+3)=((a+3:Nat):Int):=hw 3 (by omega);have hw4:IntKind.wrap .i64 ((a:Int)+4)=((a+4:Nat):Int):=hw 4 (by omega);simp only[rs,hw1,s_at h];have hd:=Lx.drop_cons h;generalize hc:s[a+1]=c at *;refine loop (fun vs w'=>∃(i:Nat),vs=[.int .i64 i]∧i≤5∧(∀j (hj:j < 5),j < i→escs[j]'hj≠c)∧w=w') (fun vs _=>5 - n0 vs) ⟨0,rfl,by omega,fun j _ hj=>absurd hj (by omega),rfl⟩ ?_;rintro vs w2 ⟨i,rfl,hi,hmiss,rfl⟩ _;simp only[iZ,gd];rw[show (⟨#[110,114,116,98,102]⟩:ByteArray)=⟨escs.toArray⟩ from rfl,show (⟨#[10,13,9,8,12]⟩:ByteArray)=⟨escB.toArray⟩ from rfl,bD Tryz.underlying9,rF,show ((escs.length:Nat):Int)=5 from rfl];by_cases hlt:(i:Int) < 5
 ·have hi2:i < 5:=by omega
  have hi3:i < escs.length:=hi2;simp only[hlt,decide_true,i_t,s_at hi3];rw[Ux,show decide ((c.toNat:Int)=(escs[i].toNat:Int))=decide (c=escs[i]) from u8d c _ _ rfl];by_cases he:c=escs[i]
  ·simp only[decide_eq_true he,i_t,rs,hw2];rw[aC (by omega) (by omega),HO (s:=escB) (i:=i) (j:=i+1) rfl (by simp) (by omega) (by show i+1≤5;omega),EY (s:=escB) (i:=i) hi2];have hh:Lx.escL c=some (escB[i]'hi2):=by rw[he];exact Sr ⟨i,hi2⟩
   refine hK _ _ ⟨?_,(Own.start w).done⟩;rw[hd,Lx.escF,hh];rfl
  ·simp only[decide_eq_false he,i_f,rs];rw[aC (by omega) (by omega)];refine bG ⟨i+1,rfl,by omega,?_,rfl⟩ (by simp[n0,RowKit.intOf];omega);intro j hj hji e;rcases Nat.lt_or_ge j i with h1|h1
   ·exact hmiss j hj h1 e
   ·have:j=i:=by omega
    subst this;exact he e.symm
 ·have hi2:i=5:=by omega
  have hl:Lx.escL c=none:=PN c fun j hj=>hmiss j hj (by omega);simp only[hlt,decide_false,i_f];have e1:=u8d c 13 13 rfl;have e2:=u8d c 10 10 rfl;have hEol:∀n,Lx.eol c=true→Lx.cY (c::s.drop (a+1+1))=n→Lx.escF (s.drop (a+1))=([],n):=by
   intro n h1 h2;rw[hd,Lx.escF,hl];simp only[h1,if_true,h2]
  by_cases g1:c=13
  ·have g10:¬c=10:=by rw[g1];decide
   have one:(¬(s.drop (a+1+1)).head?=some 10)→K (.returned (.tuple #[.string ⟨#[]⟩,.int .i64 ((a+2:Nat):Int)])) w:=by
    intro hh;refine hK _ _ ⟨?_,(Own.start w).done⟩;rw[hEol 1 (by simp[Lx.eol,g1]) (by rw[Lx.cY,if_neg g10,if_pos g1,if_neg hh])];rfl
   by_cases g2:((a+2:Nat):Int) < (s.length:Int)
   ·have ha2:a+2 < s.length:=by omega
    have hd2:=Lx.drop_cons ha2;simp only[rs,e1,decide_eq_true g1,hw2,bD Tryz.underlying9,g2,decide_true,s_at ha2];have e3:=u8d s[a+2] 10 10 rfl;by_cases g3:s[a+2]=10
    ·simp only[rs,e3,decide_eq_true g3,hw3];refine hK _ _ ⟨?_,(Own.start w).done⟩;rw[hEol 2 (by simp[Lx.eol,g1]) (by rw[Lx.cY,if_neg g10,if_pos g1,if_pos (by rw[show a+1+1=a+2 from rfl,hd2,List.head?_cons,g3])])];rfl
    ·simp only[rs,e3,decide_eq_false g3,g_un,e1,decide_eq_true g1,hw2];exact one (by rw[show a+1+1=a+2 from rfl,hd2,List.head?_cons];simpa using g3)
   ·simp only[rs,e1,decide_eq_true g1,hw2,bD Tryz.underlying9,g2,decide_false,g_un];exact one (by rw[List.drop_eq_nil_of_le (by omega)];simp)
  simp only[rs,e1,decide_eq_false g1,g_un];by_cases g2:c=10
  ·simp only[rs,e2,decide_eq_true g2,hw2];refine hK _ _ ⟨?_,(Own.start w).done⟩;rw[hEol 1 (by simp[Lx.eol,g2]) (by rw[Lx.cY,if_pos g2])];rfl
  simp only[rs,e2,decide_eq_false g2,hw1];have hE:Lx.escF (s.drop (a+1))=if 0 < (Lx.octF 3 0 (s.drop (a+1))).2 then ([UInt8.ofNat (Lx.octF 3 0 (s.drop (a+1))).1],(Lx.octF 3 0 (s.drop (a+1))).2) else ([c],1):=by
   rw[hd,Lx.escF,hl];simp only[Lx.eol,g1,g2,decide_false,Bool.or_false,Bool.false_eq_true,if_false]
  refine loop (fun vs w'=>∃(j n:Nat),vs=[.int .i64 n,.int .i64 j]∧a+1≤j∧j≤a+4∧j≤s.length∧n < 8 ^ (j - (a+1))∧Lx.octF 3 0 (s.drop (a+1))=((Lx.octF (3 - (j - (a+1))) n (s.drop j)).1,(Lx.octF (3 - (j - (a+1))) n (s.drop j)).2+(j - (a+1)))∧w=w')
   (fun vs _=>a+4 - n1 vs) ⟨a+1,0,rfl,by omega,by omega,by omega,by simp,by simp,rfl⟩ ?_
  rintro vs w3 ⟨j,n,rfl,hj1,hj2,hj3,hn,ho8,rfl⟩ _;simp only[jX,gd,bD Tryz.underlying9];have hn2:n < 512:=Nat.lt_of_lt_of_le hn (Nat.pow_le_pow_right (by decide) (by omega:j - (a+1)≤3));have stop:Lx.octF (3 - (j - (a+1))) n (s.drop j)=(n,0)→DoX prog (mBin .add 3 (.int .i64 a) (.int .i64 1)) w (pk K) fun t96 w=>
    DoX prog (mBin .gtr 3 (.int .i64 j) t96) w (pk K) fun t97 w=>
    IfX t97 (DoX prog (mBin .rem 3 (.int .i64 n) (.int .i64 256)) w (pk K) fun t99 w=>
    DoX prog (cP 3 5 t99) w (pk K) fun t100 w=>
    DoX prog (aP 66 1 #[(0,t100)]) w (pk K) fun t101 w=>
    DoX prog (cP 66 9 t101) w (pk K) fun t102 w=>
    K (.returned (.tuple #[t102,.int .i64 j])) w) (DoX prog (mBin .add 3 (.int .i64 a) (.int .i64 1)) w (pk K) fun t106 w=>
    DoX prog (mBin .add 3 (.int .i64 a) (.int .i64 2)) w (pk K) fun t108 w=>
    DoX prog (bT 9 (.string ⟨s.toArray⟩) (some t106) (some t108) none) w (pk K) fun t109 w=>
    DoX prog (mBin .add 3 (.int .i64 a) (.int .i64 2)) w (pk K) fun t111 w=>
    K (.returned (.tuple #[t109,t111])) w):=by
   intro h0;rw[h0] at ho8;simp only[rs,hw1,hw2];by_cases hij:((a+1:Nat):Int) < (j:Int)
   ·simp only[hij,decide_true,i_t];rw[Ll (by omega),c_8,E4,Int.tmod_eq_emod_of_nonneg (by omega)];refine SU (UInt8.ofNat n) (by rw[UInt8.toNat_ofNat'];omega) (Own.start w) fun w' ho=>?_;refine hK _ _ ⟨?_,ho.done⟩;rw[hE,ho8,if_pos (by simp;omega)];simp only;rw[show a+1+(0+(j - (a+1)))=j by omega]
   ·simp only[hij,decide_false,i_f];rw[HO (i:=a+1) (j:=a+2) rfl rfl (by omega) (by omega),show Lx.cut s (a+1) (a+2)=[s[a+1]] from EY h,hc];refine hK _ _ ⟨?_,(Own.start w).done⟩;rw[hE,ho8,if_neg (by simp;omega)];rfl
  by_cases hlt:(j:Int) < (s.length:Int)
  ·have hj4:j < s.length:=by omega
   have hdj:=Lx.drop_cons hj4;by_cases hj5:(j:Int) < ((a+4:Nat):Int)
   ·obtain⟨m,hm⟩:∃m,3 - (j - (a+1))=m+1:=⟨3 - (j - (a+1)) - 1,by omega⟩;rw[hm,hdj,Lx.octF] at ho8;by_cases h48:(48:Int)≤(s[j].toNat:Int)
    ·by_cases h55:(s[j].toNat:Int)≤55
     ·have hoct:Lx.oct s[j]=true:=by simp[Lx.oct];omega
      simp only[hlt,decide_true,rs,hw4,hj5,s_at hj4,h48,h55];rw[c_64 (by omega) (by omega)];simp only[rs];rw[aC (n:=8*(n:Int)) (by omega) (by omega),aC (n:=8*(n:Int)+(s[j].toNat:Int)) (by omega) (by omega),aC (by omega) (by omega),aC (by omega) (by omega)];rw[if_pos hoct] at ho8;refine bG ⟨j+1,8*n+(s[j].toNat - 48),by simp;omega,by omega,by omega,by omega,?_,?_,rfl⟩ (by simp[n1,RowKit.intOf];omega)
      ·rw[show j+1 - (a+1)=(j - (a+1))+1 by omega,Nat.pow_succ];omega
      ·rw[ho8,show 3 - (j+1 - (a+1))=m by omega];refine Prod.ext rfl ?_;simp only;omega
     ·have hst:=stop (by rw[hm,hdj,Lx.octF,if_neg];simp[Lx.oct];omega);simp only[rs,hlt,decide_true,hw4,hj5,s_at hj4,h48,h55,decide_false,g_un] at hst ⊢;exact hst
    ·have hst:=stop (by rw[hm,hdj,Lx.octF,if_neg];simp[Lx.oct];omega);simp only[rs,hlt,decide_true,hw4,hj5,s_at hj4,h48,decide_false,g_un] at hst ⊢;exact hst
   ·have hst:=stop (by rw[show 3 - (j - (a+1))=0 by omega,Lx.octF]);simp only[rs,hlt,decide_true,hw4,hj5,decide_false,g_un] at hst ⊢;exact hst
  ·have hst:=stop (by rw[show j=s.length by omega,List.drop_length];cases 3 - (s.length - (a+1))<;>rfl);simp only[rs,hlt,decide_false,g_un] at hst ⊢;exact hst
end
section
open Eng Go.RowKit
def strR (s:List UInt8)(at_:Nat)(r:(List UInt8×Nat) ⊕ Int):Value:=
 match r with
|.inr e=>.tuple #[.string ⟨#[]⟩,.int .i64 0,.int .i64 e]
|.inl r=>if 32767 < r.1.length then .tuple #[.string ⟨#[]⟩,.int .i64 0,.int .i64 5] else .tuple #[.string ⟨r.1.toArray⟩,.int .i64 ((at_+r.2:Nat):Int),.int .i64 0]
def F6 (s:List UInt8)(at_:Nat):(List UInt8×Nat) ⊕ Int:=match Lx.bP 0 1 (s.drop at_) with|none=>.inr 4|some r=>.inl r
theorem Mb (s:List UInt8)(a:Nat)(w:World)(hs:s.length≤1099511627776)(ha:a≤s.length):Ret prog 69 #[.string ⟨s.toArray⟩,.int .i64 a] w (fun v w'=>v=strR s a (F6 s a)∧Below w.heap.size w w'):=by
 refine aO fun K hK=>wW ?_;unfold gK;refine loop (fun vs w'=>∃(i o:Nat) (v:Value) (acc:List UInt8),vs=[.int .i64 i,v,.int .i64 o]∧a≤i∧i≤s.length∧1≤o∧o≤i+1∧acc.length≤i∧Lx.bP 0 1 (s.drop a)=(Lx.bP 0 o (s.drop i)).map (fun r=>(acc++r.1,r.2+(i - a)))∧Own w w' [BRow v acc])
  (fun vs _=>s.length - n0 vs) ⟨a,1,_,[],rfl,by omega,ha,by omega,by omega,by simp,by simp,(Own.start w).Az _ 1⟩ ?_
 rintro vs w4 ⟨i,o,v,acc,rfl,hi1,hi2,ho1,ho2,hacc,he,ho⟩ _;simp only[lJ,gd,bD Tryz.underlying9];rw[rF];have bad:∀{w5},Own w w5 [BRow v acc]→Lx.bP 0 o (s.drop i)=none→K (.returned (.tuple #[.string ⟨#[]⟩,.int .i64 0,.int .i64 4])) w5:=by
  intro w5 ho hn;rw[hn,Option.map_none] at he;exact hK _ _ ⟨by rw[F6,he];rfl,ho.done⟩
 by_cases hlt:(i:Int) < (s.length:Int)
 ·have hi3:i < s.length:=by omega
  have hd:=Lx.drop_cons hi3;have hw1:IntKind.wrap .i64 ((i:Int)+1)=((i+1:Nat):Int):=by rw[aC (by omega) (by omega)];omega
  simp only[hlt,decide_true,i_t,s_at hi3];have e1:=u8d s[i] 92 92 rfl;have e2:=u8d s[i] 40 40 rfl;have e3:=u8d s[i] 41 41 rfl;have e4:=u8d s[i] 13 13 rfl;by_cases g1:s[i]=92
  ·have hne:¬(Lx.eol s[i]=true):=by rw[g1];decide
   simp only[rs,e1,decide_eq_true g1,hw1,bD Tryz.underlying9];by_cases hend:(s.length:Int)≤((i+1:Nat):Int)
   ·simp only[hend,decide_true,i_t];refine bad ho ?_;rw[hd,Lx.bP,if_neg hne,if_pos g1,if_pos (List.drop_eq_nil_of_le (by omega))]
   ·have hi4:i+1 < s.length:=by omega
    simp only[hend,decide_false,i_f];have hel:=Lx.K4 (s.drop (i+1));rw[List.length_drop] at hel;refine aS ho (KV s i w4 hs hi4) ?_;rintro _ w6 rfl ho;rw[x_0,x_1];have hxl:(Lx.escF (s.drop (i+1))).1.length≤1:=by
     rw[Lx.drop_cons hi4,Lx.escF];split
     ·simp
     ·split
      ·simp
      ·split<;>simp
    refine UB ho (by omega) fun v' w7 ho=>?_;refine bG ⟨i+1+(Lx.escF (s.drop (i+1))).2,o,v',acc++(Lx.escF (s.drop (i+1))).1,rfl,by omega,by omega,ho1,by omega,by simp;omega,?_,ho⟩ (by simp[n0,RowKit.intOf];omega);rw[he,JQ hi4 g1,Option.map_map]
    congr 1
    funext r
    refine Prod.ext (by simp) ?_;simp only[Function.comp];omega
  simp only[rs,e1,decide_eq_false g1];refine join fun J2 hJ2=>?_;have fin:∀o':Nat,(s[i]=40→o'=o+1)→(s[i]≠40→o'=o)→J2 [.int .i64 o'] w4:=by
   intro o' h40 hn40;refine hJ2 _ _ fun _=>?_;simp only[mJ,gd];refine join fun J3 hJ3=>?_;have fin3:∀o':Nat,1≤o'→o'≤i+2→(Lx.eol s[i]=true→o'=o)→(Lx.eol s[i]=false→Lx.bP 0 1 (s.drop a)=(Lx.bP 0 o' (s.drop (i+1))).map (fun r=>(acc++s[i]::r.1,r.2+1+(i - a))))→J3 [.int .i64 o'] w4:=by
    intro o' h1 h2 heol hgen;refine hJ3 _ _ fun _=>?_;simp only[lQ,gd];refine join fun J4 hJ4=>?_;have fin4:∀(k:Nat) (c:UInt8),i≤k→k < s.length→(c=if s[i]=13 then 10 else s[i])→Lx.bP 0 1 (s.drop a)=(Lx.bP 0 o' (s.drop (k+1))).map (fun r=>(acc++c::r.1,r.2+(k+1 - a)))→J4 [.int .i64 k] w4:=by
     intro k c hk1 hk2 hc hT;refine hJ4 _ _ fun _=>?_;simp only[lO,gd];refine join fun J5 hJ5=>?_;have fin5:∀n:Int,(c.toNat:Int)=n→J5 [.int .u8 n] w4:=by
      intro n hn;refine hJ5 _ _ fun _=>?_;simp only[mL,gd];refine BB c hn ho (by omega) fun v' w6 ho=>?_;rw[CX,aC (by omega) (by omega)];refine bG ⟨k+1,o',v',acc++[c],rfl,by omega,by omega,h1,by omega,by simp;omega,?_,ho⟩ (by simp[n0,RowKit.intOf];omega);rw[hT]
      congr 1
      funext r
      refine Prod.ext (by simp) rfl
     by_cases g:s[i]=13
     ·simp only[rs,e4,decide_eq_true g];exact fin5 10 (by rw[hc,if_pos g];rfl)
     ·simp only[rs,e4,decide_eq_false g];exact fin5 _ (by rw[hc,if_neg g])
    have one:(Lx.eol s[i]=true→Lx.cY (s.drop i)=1)→J4 [.int .i64 i] w4:=by
     intro hl;cases hE:Lx.eol s[i] with
    |false=>
      have hn13:¬s[i]=13:=by intro e;rw[e] at hE;cases hE
      refine fin4 i s[i] (Nat.le_refl _) hi3 (by rw[if_neg hn13]) ?_;rw[hgen hE]
      congr 1
      funext r
      refine Prod.ext rfl ?_;simp only;omega
    |true=>
      have h10:(10:UInt8)=if s[i]=13 then 10 else s[i]:=by
       simp only[Lx.eol,Bool.or_eq_true,decide_eq_true_eq] at hE;rcases hE with h|h
       ·rw[if_pos h]
       ·rw[if_neg (by rw[h];decide),h]
      refine fin4 i 10 (Nat.le_refl _) hi3 h10 ?_;rw[he,heol hE,Fs hi3 hE,Lx.line,hl hE,Option.map_map]
      congr 1
      funext r
      refine Prod.ext rfl ?_;simp only[Function.comp];omega
    by_cases g:s[i]=13
    ·have g10:¬s[i]=10:=by rw[g];decide
     by_cases h3:((i+1:Nat):Int) < (s.length:Int)
     ·have hi4:i+1 < s.length:=by omega
      simp only[rs,e4,decide_eq_true g,hw1,bD Tryz.underlying9,h3,decide_true,s_at hi4];have e5:=u8d s[i+1] 10 10 rfl;have hh:(s.drop (i+1)).head?=some s[i+1]:=by rw[Lx.drop_cons hi4,List.head?_cons]
      by_cases h5:s[i+1]=10
      ·simp only[rs,e5,decide_eq_true h5,hw1];have hE:Lx.eol s[i]=true:=by simp[Lx.eol,g]
       refine fin4 (i+1) 10 (by omega) hi4 (by rw[if_pos g]) ?_;have hL:Lx.cY (s.drop i)=2:=by rw[hd,Lx.cY,if_neg g10,if_pos g,if_pos (by rw[hh,h5])]
       rw[he,heol hE,Fs hi3 hE,Lx.line,hL,Option.map_map]
       congr 1
       funext r
       refine Prod.ext rfl ?_;simp only[Function.comp];omega
      ·simp only[rs,e5,decide_eq_false h5];refine one fun _=>?_;rw[hd,Lx.cY,if_neg g10,if_pos g,if_neg (by rw[hh];simpa using h5)]
     ·simp only[rs,e4,decide_eq_true g,hw1,bD Tryz.underlying9,h3,decide_false,g_un];refine one fun _=>?_;rw[hd,Lx.cY,if_neg g10,if_pos g,if_neg (by rw[List.drop_eq_nil_of_le (by omega)];simp)]
    ·simp only[rs,e4,decide_eq_false g,g_un];refine one fun hE=>?_;have:s[i]=10:=by simpa[Lx.eol,g] using hE
     rw[hd,Lx.cY,if_pos this]
   have step:Lx.eol s[i]=false→Lx.bP 0 o (s.drop i)=if s[i]=40 then (Lx.bP 0 (o+1) (s.drop (i+1))).map (fun r=>(s[i]::r.1,r.2+1))
     else if s[i]=41 then if o≤1 then some ([],1) else (Lx.bP 0 (o - 1) (s.drop (i+1))).map (fun r=>(s[i]::r.1,r.2+1))
     else (Lx.bP 0 o (s.drop (i+1))).map (fun r=>(s[i]::r.1,r.2+1)):=by
    intro hE;rw[hd,Lx.bP,if_neg (by rw[hE];decide),if_neg g1]
   by_cases g3:s[i]=41
   ·have hE:Lx.eol s[i]=false:=by rw[g3];rfl
    have g40:s[i]≠40:=by rw[g3];decide
    have hst:=step hE;rw[if_neg g40,if_pos g3] at hst;simp only[rs,e3,decide_eq_true g3];rw[hn40 g40,aC (by omega) (by omega)];by_cases g4:o≤1
    ·have g5:(o:Int) - 1=0:=by omega
     rw[if_pos g4] at hst;simp only[g5,decide_true,i_t,bF Tryz.underlying66 (ho.Dh 0 rfl),rs];rw[hst,Option.map_some,List.append_nil] at he;by_cases hbig:(32767:Int) < (acc.length:Int)
     ·simp only[hbig,decide_true,i_t];exact hK _ _ ⟨by rw[F6,he];simp only[strR];rw[if_pos (by omega)],ho.done⟩
     ·simp only[hbig,decide_false,i_f,EK 0 ho rfl,hw1];exact hK _ _ ⟨by rw[F6,he];simp only[strR];rw[if_neg (by omega),show a+(1+(i - a))=i+1 by omega],ho.done⟩
    ·have g5:¬((o:Int) - 1=0):=by omega
     rw[if_neg g4] at hst;simp only[g5,decide_false,i_f];rw[show (o:Int) - 1=((o - 1:Nat):Int) by omega];refine fin3 (o - 1) (by omega) (by omega) (fun h=>by rw[hE] at h;cases h) fun _=>?_;rw[he,hst,Option.map_map];rfl
   ·simp only[rs,e3,decide_eq_false g3];by_cases g2:s[i]=40
    ·have hE:Lx.eol s[i]=false:=by rw[g2];rfl
     refine fin3 o' (by have:=h40 g2;omega) (by have:=h40 g2;omega) (fun h=>by rw[hE] at h;cases h) fun _=>?_;rw[he,step hE,if_pos g2,h40 g2,Option.map_map];rfl
    ·refine fin3 o' (by have:=hn40 g2;omega) (by have:=hn40 g2;omega) (fun _=>hn40 g2) fun hE=>?_;rw[he,step hE,if_neg g2,if_neg g3,hn40 g2,Option.map_map];rfl
  by_cases g2:s[i]=40
  ·simp only[rs,e2,decide_eq_true g2];rw[aC (by omega) (by omega),show (o:Int)+1=((o+1:Nat):Int) by omega];exact fin (o+1) (fun _=>rfl) (fun h=>absurd g2 h)
  ·simp only[rs,e2,decide_eq_false g2];exact fin o (fun h=>absurd h g2) (fun _=>rfl)
 ·have hi3:i=s.length:=by omega
  simp only[hlt,decide_false,i_f];refine bad ho ?_;rw[hi3,List.drop_length];rfl
end
section
open Eng Go.RowKit
def digF:List UInt8→(List UInt8×Nat) ⊕ Int
|[]=>.inr 4
|c::t=>
  if c=62 then .inl ([],1)
  else if 0≤Lx.digit c then match digF t with|.inl r=>.inl (c::r.1,r.2+1)|.inr e=>.inr e
  else if Oc.gE c then match digF t with|.inl r=>.inl (r.1,r.2+1)|.inr e=>.inr e
  else .inr 3
def M6:List UInt8→List UInt8
|[]=>[]
|[a]=>[Lx.byte (Lx.digit a) 0]
|a::b::t=>Lx.byte (Lx.digit a) (Lx.digit b)::M6 t
def padH (l:List UInt8):List UInt8:=if l.length % 2=0 then l else l++[48]
theorem LR (c:UInt8)(h:Oc.gE c=true):Lx.digit c < 0:=by
 have:∀n:Fin 256,Oc.gE (UInt8.ofNat n.val)=true→Lx.digit (UInt8.ofNat n.val) < 0:=by decide +kernel
 have h2:=this ⟨c.toNat,c.toNat_lt⟩;simp only[UInt8.ofNat_toNat] at h2;exact h2 h
theorem Kz:∀l:List UInt8,(Lx.hexF (-1) l=match digF l with|.inl r=>.inl (M6 r.1,r.2)|.inr e=>.inr e) ∧
  ∀c:UInt8,0≤Lx.digit c→Lx.hexF (Lx.digit c) l=match digF l with|.inl r=>.inl (M6 (c::r.1),r.2)|.inr e=>.inr e
|[]=>⟨rfl,fun _ _=>rfl⟩
|x::t=>by
  have ih:=Kz t;by_cases g1:x=62
  ·refine⟨?_,fun c hc=>?_⟩
   ·rw[Lx.hexF,if_pos g1,digF,if_pos g1];rfl
   ·rw[Lx.hexF,if_pos g1,digF,if_pos g1,if_pos hc];rfl
  by_cases g2:0≤Lx.digit x
  ·have hw:¬Oc.gE x=true:=fun h=>by have:=LR x h;omega
   refine⟨?_,fun c hc=>?_⟩
   ·rw[Lx.hexF,if_neg g1,if_neg hw,if_neg (by omega),if_pos (by omega),digF,if_neg g1,if_pos g2,ih.2 x g2];cases digF t<;>rfl
   ·rw[Lx.hexF,if_neg g1,if_neg hw,if_neg (by omega),if_neg (by omega),digF,if_neg g1,if_pos g2,ih.1];cases digF t<;>rfl
  by_cases g3:Oc.gE x=true
  ·refine⟨?_,fun c hc=>?_⟩
   ·rw[Lx.hexF,if_neg g1,if_pos g3,digF,if_neg g1,if_neg g2,if_pos g3,ih.1];cases digF t<;>rfl
   ·rw[Lx.hexF,if_neg g1,if_pos g3,digF,if_neg g1,if_neg g2,if_pos g3,ih.2 c hc];cases digF t<;>rfl
  ·refine⟨?_,fun c hc=>?_⟩
   ·rw[Lx.hexF,if_neg g1,if_neg g3,if_pos (by omega),digF,if_neg g1,if_neg g2,if_neg g3]
   ·rw[Lx.hexF,if_neg g1,if_neg g3,if_pos (by omega),digF,if_neg g1,if_neg g2,if_neg g3]
theorem Kb:∀(n:Nat) (l:List UInt8),l.length≤n→(∀c∈l,0≤Lx.digit c)→Lx.unhex (padH l)=some (M6 l)
|_,[],_,_=>rfl
|_,[a],_,h=>by
  have h0:=h a (by simp);have e:padH [a]=[a,48]:=rfl;rw[e,Lx.unhex,if_neg (by rw[show Lx.digit 48=0 from rfl];omega),Lx.unhex];rfl
|0,_::_::_,h,_=>by simp at h
|n+1,a::b::t,hl,h=>by
  simp only[List.length_cons] at hl;have ih:=Kb n t (by omega) (fun c hc=>h c (by simp[hc]));have ha:=h a (by simp);have hb:=h b (by simp);have e:padH (a::b::t)=a::b::padH t:=by
   unfold padH;simp only[List.length_cons,Nat.add_mod_right,show t.length+1+1=t.length+2 from rfl];split<;>simp
  rw[e,Lx.unhex,if_neg (by omega),ih,M6];rfl
def hexR (s:List UInt8)(at_:Nat):(List UInt8×Nat) ⊕ Int:=Lx.hexF (-1) (s.drop at_)
 attribute [local congr] iA in
theorem Pg (s:List UInt8)(a:Nat)(w:World)(hs:s.length≤1099511627776)(ha:a≤s.length):Ret prog 70 #[.string ⟨s.toArray⟩,.int .i64 a] w (fun v w'=>v=strR s a (hexR s a)∧Below w.heap.size w w'):=by
  refine aO fun K hK=>zI ?_;unfold jN
  let ext (acc:List UInt8) (n:Nat) (r:(List UInt8×Nat) ⊕ Int):(List UInt8×Nat) ⊕ Int:=match r with|.inl r=>.inl (acc++r.1,r.2+n)|.inr e=>.inr e
  refine loop (fun vs w'=>∃(i:Nat) (v:Value) (acc:List UInt8),vs=[.int .i64 i,v]∧a≤i∧i≤s.length∧acc.length≤i∧(∀c∈acc,0≤Lx.digit c)∧digF (s.drop a)=ext acc (i - a) (digF (s.drop i))∧Own w w' [BRow v acc])
   (fun vs _=>s.length - n0 vs) ⟨a,_,[],rfl,by omega,ha,by simp,by simp,?_,(Own.start w).Az _ 1⟩ ?_
  ·cases digF (s.drop a)<;>simp[ext]
  rintro vs w4 ⟨i,v,acc,rfl,hi1,hi2,hacc,hall,he,ho⟩ _;simp only[nJ,gd,bD Tryz.underlying9];have hHF:=(Kz (s.drop a)).1;by_cases hlt:(i:Int) < (s.length:Int)
  ·have hi3:i < s.length:=by omega
   have hd:=Lx.drop_cons hi3;rw[hd,digF] at he;have e1:decide ((s[i].toNat:Int)≠62)=decide (s[i]≠62):=by
    have:=u8d s[i] 62 62 rfl;rw[decide_not,decide_not,this]
   by_cases g1:s[i]=62
   ·have hlt2:¬((s.length:Int)≤(i:Int)):=by omega
    have g1':¬(s[i]≠62):=fun h=>h g1;simp only[rs,hlt,decide_true,s_at hi3,e1,decide_eq_false g1',bD Tryz.underlying9,hlt2,decide_false,bF Tryz.underlying66 (ho.Dh 0 rfl)];rw[if_pos g1] at he;have he:digF (s.drop a)=.inl (acc,1+(i - a)):=by rw[he];simp[ext]
    rw[he] at hHF;refine join fun J3 hJ3=>?_;have fin:∀(v':Value) (w5:World),Own w w5 [BRow v' (padH acc)]→J3 [v'] w5:=by
     intro v' w5 ho;refine hJ3 _ _ fun _=>?_;simp only[nG,gd,EK 0 ho rfl];have hpl:(padH acc).length≤acc.length+1:=by unfold padH;split<;>simp
     refine aS ho (Nh (padH acc) w5 (by omega)) ?_;rintro _ w6 rfl ho;rw[uB (Kb _ acc (Nat.le_refl _) hall)];simp only[ex,rs,bD Tryz.underlying9];by_cases hbig:(32767:Int) < ((M6 acc).length:Int)
     ·simp only[hbig,decide_true,i_t];exact hK _ _ ⟨by rw[hexR,hHF];simp only[strR];rw[if_pos (by omega)],ho.done⟩
     ·simp only[hbig,decide_false,i_f,rs];rw[aC (by omega) (by omega)];exact hK _ _ ⟨by rw[hexR,hHF];simp only[strR];rw[if_neg (by omega),show ((a+(1+(i - a)):Nat):Int)=(i:Int)+1 by omega],ho.done⟩
    rw[Ll (by omega)];have hr:((acc.length:Int).tmod 2)=((acc.length % 2:Nat):Int):=by rw[Int.tmod_eq_emod_of_nonneg (by omega)];omega
    rw[hr];by_cases hodd:acc.length % 2=0
    ·rw[hodd];simp only[rs,ne_eq,Int.natCast_zero,not_true,decide_false];exact fin _ _ (by rw[padH,if_pos hodd];exact ho)
    ·have hne:((acc.length % 2:Nat):Int)≠0:=by omega
     simp only[rs,decide_eq_true hne];refine BB 48 rfl ho (by omega) fun v' w5 ho=>?_;exact fin _ _ (by rw[padH,if_neg hodd];exact ho)
   ·simp only[rs,hlt,decide_true,s_at hi3,e1,decide_eq_true g1];rw[if_neg g1] at he;refine join fun J2 hJ2=>?_;have go:∀(v':Value) (acc':List UInt8) (w5:World),acc'.length≤i+1→(∀c∈acc',0≤Lx.digit c)→digF (s.drop a)=ext acc' (i+1 - a) (digF (s.drop (i+1)))→Own w w5 [BRow v' acc']→J2 [v'] w5:=by
     intro v' acc' w5 h1 h2 h3 ho;refine hJ2 _ _ fun _=>?_;simp only[nK,gd,rs];rw[aC (by omega) (by omega)];exact bG ⟨i+1,v',acc',rfl,by omega,by omega,h1,h2,h3,ho⟩ (by simp[n0,RowKit.intOf];omega)
    refine c_eq (rD s[i] w4) ?_;by_cases g2:0≤Lx.digit s[i]
    ·simp only[rs,g2,decide_true,s_at hi3];rw[if_pos g2] at he;refine BB s[i] rfl ho (by omega) fun v' w5 ho=>?_;refine go v' _ _ (by simp;omega) ?_ ?_ ho
     ·intro c hc;rcases List.mem_append.1 hc with h|h
      ·exact hall c h
      ·rw[List.mem_singleton] at h;rw[h];exact g2
     ·rw[he];cases digF (s.drop (i+1)) with
     |inl r=>simp only[ext,List.append_assoc,List.singleton_append];rw[show r.2+1+(i - a)=r.2+(i+1 - a) by omega]
     |inr e=>rfl
    ·simp only[rs,g2,decide_false,s_at hi3];rw[if_neg g2] at he;refine c_eq (nX s[i] w4) ?_;cases hw:Oc.gE s[i] with
    |true=>
      simp only[rs,Bool.not_true];rw[if_pos hw] at he;refine go v acc _ (by omega) hall ?_ ho;rw[he];cases digF (s.drop (i+1)) with
     |inl r=>simp only[ext];rw[show r.2+1+(i - a)=r.2+(i+1 - a) by omega]
     |inr e=>rfl
    |false=>
      simp only[rs,Bool.not_false];rw[if_neg (by rw[hw];decide)] at he;rw[he] at hHF;exact hK _ _ ⟨by rw[hexR,hHF];rfl,ho.done⟩
  ·have hi3:i=s.length:=by omega
   have hge:((s.length:Int)≤(i:Int)):=by omega
   rw[hi3,List.drop_length] at he;rw[he] at hHF;simp only[rs,hlt,decide_false,g_un,bD Tryz.underlying9,hge,decide_true];exact hK _ _ ⟨by rw[hexR,hHF];rfl,ho.done⟩
theorem L3 {s:List UInt8}{a:Nat}{r:List UInt8×Nat}:strR s a (.inl r)=.tuple #[.string ⟨(if 32767 < r.1.length then ([]:List UInt8) else r.1).toArray⟩,.int .i64 (if 32767 < r.1.length then 0 else ((a+r.2:Nat):Int)),.int .i64 (if 32767 < r.1.length then 5 else 0)]:=by
 unfold strR;simp only;by_cases h:32767 < r.1.length
 ·simp only[if_pos h]
 ·simp only[if_neg h]
theorem QE (a:Nat)(r:(List UInt8×Nat) ⊕ Int):(match r with|.inr e=>Lx.refused e|.inl r=>Lx.told 3 a (a+1+r.2:Nat) r.1 32767) =
  match r with
 |.inr e=>Lx.refused e
 |.inl r=>if 32767 < r.1.length then Lx.refused 5 else (⟨3,a,(a+1+r.2:Nat),0,r.1⟩,0):=by
 cases r with
|inr e=>rfl
|inl r=>
  simp only[Lx.told];by_cases h:32767 < r.1.length
  ·rw[if_pos h,if_pos (by omega)]
  ·rw[if_neg h,if_neg (by omega)]
theorem NO (s:List UInt8)(a:Nat):Lx.text s a=match F6 s (a+1) with|.inr e=>Lx.refused e|.inl r=>Lx.told 3 a (a+1+r.2:Nat) r.1 32767:=by
 unfold Lx.text F6;cases Lx.bP 0 1 (s.drop (a+1))<;>rfl
theorem Qn (s:List UInt8)(a:Nat)(e:Int)(h:F6 s a=.inr e):e≠0:=by
 unfold F6 at h;split at h
 ·cases h;decide
 ·cases h
theorem EB:∀(l:List UInt8) (h e:Int),Lx.hexF h l=.inr e→e≠0
|[],_,e,h=>by rw[Lx.hexF] at h;cases h;decide
|c::t,h,e,he=>by
  rw[Lx.hexF] at he;split at he
  ·cases he
  ·split at he
   ·cases hh:Lx.hexF h t with
   |inl r=>rw[hh] at he;cases he
   |inr e'=>rw[hh] at he;cases he;exact EB t h e hh
   ·split at he
    ·cases he;decide
    ·split at he
     ·cases hh:Lx.hexF (Lx.digit c) t with
     |inl r=>rw[hh] at he;cases he
     |inr e'=>rw[hh] at he;cases he;exact EB t _ e hh
     ·cases hh:Lx.hexF (-1) t with
     |inl r=>rw[hh] at he;cases he
     |inr e'=>rw[hh] at he;cases he;exact EB t _ e hh
theorem MZ (s:List UInt8)(a:Nat)(w:World)(hs:s.length≤1099511627776)(ha:a < s.length):Ret prog 43 #[.string ⟨s.toArray⟩,.int .i64 a] w (fun v w'=>v=tokR (Lx.token s a)∧Below w.heap.size w w'):=by
 refine aO fun K hK=>tX ?_;unfold fO;refine jY (Own.start w) fun b w1 ho=>?_;have hd:=Lx.drop_cons ha;have hT:Lx.token s a=if s[a]=91∨s[a]=93∨s[a]=123∨s[a]=125 then Lx.mark s a 1
  else if s[a]=60 then (if (s.drop (a+1)).head?=some s[a] then Lx.mark s a 2 else Lx.hex s a)
  else if s[a]=62 then (if (s.drop (a+1)).head?=some s[a] then Lx.mark s a 2 else Lx.refused 3)
  else if s[a]=47 then Lx.name s a
  else if s[a]=40 then Lx.text s a
  else if s[a]=41 then Lx.refused 3
  else Lx.word s a:=by rw[Lx.token,hd]
 have hw1:IntKind.wrap .i64 ((a:Int)+1)=((a+1:Nat):Int):=by rw[aC (by omega) (by omega)];omega
 have hw2:IntKind.wrap .i64 ((a:Int)+2)=((a+2:Nat):Int):=by rw[aC (by omega) (by omega)];omega
 -- the byte behind is the same
 have two:(s.drop (a+1)).head?=some s[a]→a+2≤s.length:=by
  intro h;cases hdd:s.drop (a+1) with
 |nil=>rw[hdd] at h;cases h
 |cons x t=>
   have:=congrArg List.length hdd;simp at this;omega
 have hdbl:∀{E:VWP},E (.bool (decide ((s.drop (a+1)).head?=some s[a]))) w1→DoX prog (mB .len #[9] 3 #[false] #[.string ⟨s.toArray⟩]) w1 (pk K) fun t23 w=>
   DoX prog (mBin .lss 3 (.int .i64 ((a+1:Nat):Int)) t23) w (pk K) fun t24 w=>
   GDo t24 true (fun E=>E (.string ⟨s.toArray⟩) w) w fun t26 w=>
   GDo t24 true (fun E=>E (.int .i64 a) w) w fun t27 w=>
   GDo t24 true (fun E=>DoX prog (mBin .add 3 t27 (.int .i64 1)) w (pk K) E) w fun t28 w=>
   GDo t24 true (fun E=>DoX prog (mIx 9 t26 t28) w (pk K) E) w fun t29 w=>
   GDo t24 true (fun E=>E (.int .u8 s[a].toNat) w) w fun t30 w=>
   GDo t24 true (fun E=>DoX prog (mEq .eql 5 (.tmp 29) (.tmp 30) t29 t30) w (pk K) E) w fun t31 w=>
   DoX prog (aL t24 t31 (.bool false)) w (pk K) E:=by
  intro E hE;by_cases h:((a+1:Nat):Int) < (s.length:Int)
  ·have h2:a+1 < s.length:=by omega
   simp only[bD Tryz.underlying9,rs,h,decide_true,hw1,s_at h2];rw[show decide ((s[a+1].toNat:Int)=(s[a].toNat:Int))=decide ((s.drop (a+1)).head?=some s[a]) by
    rw[u8d s[a+1] _ s[a] rfl,Lx.drop_cons h2,List.head?_cons];by_cases g:s[a+1]=s[a]
    ·rw[decide_eq_true g,decide_eq_true (by rw[g])]
    ·rw[decide_eq_false g,decide_eq_false (by simpa using g)]]
   exact hE
  ·rw[decide_eq_false (by rw[List.drop_eq_nil_of_le (by omega)];simp)] at hE;simp only[bD Tryz.underlying9,rs,h,decide_false,g_un];exact hE
 simp only[s_at ha];rw[CX,hw1];refine hdbl ?_;generalize hD:decide ((s.drop (a+1)).head?=some s[a])=D at *;have hDt:D=true→(s.drop (a+1)).head?=some s[a]:=fun h=>by rw[h] at hD;exact of_decide_eq_true hD
 have hDf:D=false→¬(s.drop (a+1)).head?=some s[a]:=fun h=>by rw[h] at hD;exact of_decide_eq_false hD
 have q1:=u8d s[a] 60 60 rfl;have q2:=u8d s[a] 62 62 rfl;have q3:=u8d s[a] 47 47 rfl;have q4:=u8d s[a] 40 40 rfl;have q5:=u8d s[a] 41 41 rfl;have p1:=u8d s[a] 91 91 rfl;have p2:=u8d s[a] 93 93 rfl;have p3:=u8d s[a] 123 123 rfl;have p4:=u8d s[a] 125 125 rfl;have mk:∀n:Nat,a+n≤s.length→Lx.token s a=Lx.mark s a n→DoX prog (bT 9 (.string ⟨s.toArray⟩) (some (.int .i64 a)) (some (.int .i64 ((a+n:Nat):Int))) none) w1 (pk K) fun t49 w=>
   DoX prog (aG 53 #[(0,(.int .i64 6)),(1,.int .i64 a),(2,.int .i64 ((a+n:Nat):Int)),(4,t49)]) w (pk K) fun t50 w=>
   DoX prog (aD 53 (.pointer (some ⟨b,0,none⟩)) t50) w (pk K) fun _ w=>
   RetX prog [.cell (.pointer (some ⟨b,0,none⟩)) 53,.val (.int .i64 0)] w K:=by
  intro n hn hm;rw[HO (i:=a) (j:=a+n) rfl rfl (by omega) hn,Mj];exact cM 0 ho rfl fun w' ho=>hK _ _ ⟨by rw[hm];rfl,ho.done⟩
 have no:∀(e:Int),Lx.token s a=Lx.refused e→DoX prog (aG 53 #[]) w1 (pk K) fun t50 w=>
   DoX prog (aD 53 (.pointer (some ⟨b,0,none⟩)) t50) w (pk K) fun _ w=>
   RetX prog [.cell (.pointer (some ⟨b,0,none⟩)) 53,.val (.int .i64 e)] w K:=by
  intro e hm;rw[BV];exact cM 0 ho rfl fun w' ho=>hK _ _ ⟨by rw[hm];rfl,ho.done⟩
 -- strings
 have str:∀(r:(List UInt8×Nat) ⊕ Int) (w2:World),Own w w2 [tokE b Lx.none_]→(∀e,r=.inr e→e≠0)→Lx.token s a=(match r with|.inr e=>Lx.refused e|.inl r=>Lx.told 3 a (a+1+r.2:Nat) r.1 32767)→∀x y z,strR s (a+1) r=.tuple #[x,y,z]→eE (.int .i64 a) (.pointer (some ⟨b,0,none⟩)) x y z w2 K:=by
  intro r w2 ho hpos hm x y z hxyz;rw[QE] at hm;unfold eE;cases r with
 |inr e=>
   simp only[strR] at hxyz
   injection hxyz with hxyz
   injection hxyz with hxyz
   simp only[List.cons.injEq,and_true] at hxyz;obtain⟨rfl,rfl,rfl⟩:=hxyz;have he:=hpos e rfl;simp only[rs,decide_eq_true he,BV];exact cM 0 ho rfl fun w' ho=>hK _ _ ⟨by rw[hm];rfl,ho.done⟩
 |inl r=>
   rw[L3] at hxyz
   injection hxyz with hxyz
   injection hxyz with hxyz
   simp only[List.cons.injEq,and_true] at hxyz;obtain⟨rfl,rfl,rfl⟩:=hxyz;by_cases hbig:32767 < r.1.length
   ·simp only[if_pos hbig,rs,ne_eq,show ¬((5:Int)=0) by decide,not_false_eq_true,decide_true,BV];exact cM 0 ho rfl fun w' ho=>hK _ _ ⟨by rw[hm];simp only;rw[if_pos hbig];rfl,ho.done⟩
   ·simp only[if_neg hbig,rs,ne_eq,not_true,decide_false,Mj];exact cM 0 ho rfl fun w' ho=>hK _ _ ⟨by rw[hm];simp only;rw[if_neg hbig],ho.done⟩
 have trip:∀r,∃x y z,strR s (a+1) r=.tuple #[x,y,z]:=by
  intro r;cases r with
 |inr e=>exact⟨_,_,_,rfl⟩
 |inl r=>exact⟨_,_,_,L3⟩
 by_cases g1:s[a]=60
 ·have hT:Lx.token s a=if (s.drop (a+1)).head?=some s[a] then Lx.mark s a 2 else Lx.hex s a:=by
   rw[hT,if_neg (by rw[g1];decide),if_pos g1]
  simp only[rs,q1,decide_eq_true g1,g_un];cases hDD:D with
 |true=>
   have h2:=hDt hDD;simp only[rs,hw2];exact mk 2 (two h2) (by rw[hT,if_pos h2])
 |false=>
   have h2:=hDf hDD;rw[if_neg h2] at hT;have n1:¬s[a]=91:=by rw[g1];decide
   have n2:¬s[a]=93:=by rw[g1];decide
   have n3:¬s[a]=123:=by rw[g1];decide
   have n4:¬s[a]=125:=by rw[g1];decide
   have n5:¬s[a]=62:=by rw[g1];decide
   have n6:¬s[a]=41:=by rw[g1];decide
   have n7:¬s[a]=47:=by rw[g1];decide
   have n8:¬s[a]=40:=by rw[g1];decide
   simp only[rs,p1,p2,p3,p4,q2,q5,q3,q4,q1,decide_eq_false n1,decide_eq_false n2,decide_eq_false n3,decide_eq_false n4,decide_eq_false n5,decide_eq_false n6,decide_eq_false n7,decide_eq_false n8,decide_eq_true g1,g_un,hw1];refine aS ho (Mb s (a+1) w1 hs (by omega)) ?_;rintro _ w2 rfl ho;obtain⟨x,y,z,hxyz⟩:=trip (F6 s (a+1));rw[hxyz];simp only[ex];refine join fun J hJ=>?_;refine aS ho (Pg s (a+1) w2 hs (by omega)) ?_;rintro _ w3 rfl ho;obtain⟨x',y',z',hxyz'⟩:=trip (hexR s (a+1));rw[hxyz'];simp only[ex];refine hJ _ _ fun _=>?_;simp only[gd];exact str (hexR s (a+1)) w3 ho (fun e he=>EB _ _ _ he) (by rw[hT,Lx.hex,hexR];cases Lx.hexF (-1) (s.drop (a+1))<;>rfl) _ _ _ hxyz'
 by_cases g2:s[a]=62
 ·have hT:Lx.token s a=if (s.drop (a+1)).head?=some s[a] then Lx.mark s a 2 else Lx.refused 3:=by
   rw[hT,if_neg (by rw[g2];decide),if_neg g1,if_pos g2]
  simp only[rs,q1,decide_eq_false g1,q2,decide_eq_true g2,g_un];cases hDD:D with
 |true=>
   have h2:=hDt hDD;simp only[rs,hw2];exact mk 2 (two h2) (by rw[hT,if_pos h2])
 |false=>
   have h2:=hDf hDD;rw[if_neg h2] at hT;have n1:¬s[a]=91:=by rw[g2];decide
   have n2:¬s[a]=93:=by rw[g2];decide
   have n3:¬s[a]=123:=by rw[g2];decide
   have n4:¬s[a]=125:=by rw[g2];decide
   simp only[rs,p1,p2,p3,p4,q2,decide_eq_false n1,decide_eq_false n2,decide_eq_false n3,decide_eq_false n4,decide_eq_true g2,g_un];exact no 3 hT
 simp only[rs,q1,decide_eq_false g1,q2,decide_eq_false g2,g_un];by_cases b1:s[a]=91
 ·simp only[rs,p1,decide_eq_true b1,g_un,hw1];exact mk 1 (by omega) (by rw[hT,if_pos (.inl b1)])
 by_cases b2:s[a]=93
 ·simp only[rs,p1,decide_eq_false b1,p2,decide_eq_true b2,g_un,hw1];exact mk 1 (by omega) (by rw[hT,if_pos (.inr (.inl b2))])
 by_cases b3:s[a]=123
 ·simp only[rs,p1,decide_eq_false b1,p2,decide_eq_false b2,p3,decide_eq_true b3,g_un,hw1];exact mk 1 (by omega) (by rw[hT,if_pos (.inr (.inr (.inl b3)))])
 by_cases b4:s[a]=125
 ·simp only[rs,p1,decide_eq_false b1,p2,decide_eq_false b2,p3,decide_eq_false b3,p4,decide_eq_true b4,g_un,hw1];exact mk 1 (by omega) (by rw[hT,if_pos (.inr (.inr (.inr b4)))])
 rw[if_neg (by rintro (h|h|h|h)<;>contradiction),if_neg g1,if_neg g2] at hT;simp only[rs,p1,p2,p3,p4,decide_eq_false b1,decide_eq_false b2,decide_eq_false b3,decide_eq_false b4,g_un,q2,decide_eq_false g2];by_cases g5:s[a]=41
 ·simp only[rs,q5,decide_eq_true g5,g_un];exact no 3 (by rw[hT,if_neg (by rw[g5];decide),if_neg (by rw[g5];decide),if_pos g5])
 simp only[rs,q5,decide_eq_false g5];by_cases g3:s[a]=47
 ·rw[if_pos g3] at hT;simp only[rs,q3,decide_eq_true g3,hw1];refine c_eq (MQ s (a+1) w1 hs (by omega)) ?_;have hto:=Lx.Hs s (show a+1≤s.length by omega);have hto2:a+1≤Lx.run s (a+1):=by unfold Lx.run;omega
  rw[HO rfl rfl hto2 hto];have hcl:(Lx.cut s (a+1) (Lx.run s (a+1))).length≤s.length:=by rw[zS hto];omega
  refine aS ho (NJ _ w1 (by omega)) ?_;rintro _ w2 rfl ho;have hN:Lx.token s a=if (GH (Lx.cut s (a+1) (Lx.run s (a+1)))).2≠0 then Lx.refused (GH (Lx.cut s (a+1) (Lx.run s (a+1)))).2 else (⟨4,a,Lx.run s (a+1),0,(GH (Lx.cut s (a+1) (Lx.run s (a+1)))).1⟩,0):=by
   rw[hT,Lx.name,GH];cases Lx.dJ (Lx.cut s (a+1) (Lx.run s (a+1))) with
  |none=>rfl
  |some x=>
    simp only[Lx.told];by_cases h:127 < x.length
    ·rw[if_pos (by omega),if_pos h];simp[Lx.refused]
    ·rw[if_neg (by omega),if_neg h];simp
  simp only[ex,rs];by_cases he:(GH (Lx.cut s (a+1) (Lx.run s (a+1)))).2≠0
  ·rw[if_pos he] at hN;simp only[decide_eq_true he,i_t,BV];exact cM 0 ho rfl fun w' ho=>hK _ _ ⟨by rw[hN];rfl,ho.done⟩
  ·rw[if_neg he] at hN;simp only[decide_eq_false he,i_f,Mj];exact cM 0 ho rfl fun w' ho=>hK _ _ ⟨by rw[hN],ho.done⟩
 simp only[rs,q3,decide_eq_false g3];rw[if_neg g3] at hT;by_cases g4:s[a]=40
 ·rw[if_pos g4] at hT;simp only[rs,q4,decide_eq_true g4,g_un,hw1];refine aS ho (Mb s (a+1) w1 hs (by omega)) ?_;rintro _ w2 rfl ho;obtain⟨x,y,z,hxyz⟩:=trip (F6 s (a+1));rw[hxyz];simp only[ex];refine join fun J hJ=>?_;refine hJ _ _ fun _=>?_;simp only[gd];exact str (F6 s (a+1)) w2 ho (fun e he=>Qn _ _ _ he) (by rw[hT,NO]) _ _ _ hxyz
 rw[if_neg g4,if_neg g5] at hT;simp only[rs,q4,decide_eq_false g4,q1,decide_eq_false g1];refine c_eq (MQ s a w1 hs (by omega)) ?_;have hto:=Lx.Hs s (show a≤s.length by omega);have hto2:a≤Lx.run s a:=by unfold Lx.run;omega
 rw[HO rfl rfl hto2 hto];have hcl:(Lx.cut s a (Lx.run s a)).length≤s.length:=by rw[zS hto];omega
 refine aS ho (OH _ w1 (by omega)) ?_;rintro _ w2 rfl ho;have hW:Lx.token s a=_:=hT.trans (KS (Lx.cut s a (Lx.run s a)) a (Lx.run s a));simp only[tokR,ex];refine jY ho fun b2 w3 ho=>?_;refine Bq 0 ho rfl (new:=tokC (mY (Lx.cut s a (Lx.run s a))).1) Tk (IL _) rfl fun w4 ho=>?_;have ho:Own w w4 [tokE b2 (mY (Lx.cut s a (Lx.run s a))).1,tokE b Lx.none_]:=ho;simp only[rs];by_cases he:(mY (Lx.cut s a (Lx.run s a))).2≠0
 ·rw[if_pos he] at hW;simp only[decide_eq_true he,i_t,BV];exact cM 1 ho rfl fun w' ho=>hK _ _ ⟨by rw[hW];rfl,ho.done⟩
 ·rw[if_neg he] at hW;simp only[decide_eq_false he,i_f];rw[cF (show fOff prog 53 1=some 1 by kernel_rfl)];refine bI 0 ho rfl (by kernel_rfl) rfl (by simp[tokC]) fun w5 ho=>?_;rw[cF (show fOff prog 53 2=some 2 by kernel_rfl)];refine bI 0 ho rfl (by kernel_rfl) rfl (by simp[tokC]) fun w6 ho=>?_;have ho:Own w w6 [tokE b2 { (mY (Lx.cut s a (Lx.run s a))).1 with a:=a,t:=Lx.run s a },tokE b Lx.none_]:=ho;rw[l_at (ho.agg 0 rfl DJ)];exact cM 1 ho rfl fun w' ho=>hK _ _ ⟨by rw[hW],ho.done⟩
theorem mR (s:List UInt8)(i:Int)(w:World)(hs:s.length≤1099511627776):Ret prog 18 #[.string ⟨s.toArray⟩,.int .i64 i] w (fun v w'=>v=tokR (Lx.next s i)∧Below w.heap.size w w'):=by
 refine aO fun K hK=>wH ?_;unfold iK;refine jY (Own.start w) fun b w1 ho=>?_;have out:(i < 0∨(s.length:Int) < i)→DoX prog (aG 53 #[]) w1 (pk K) fun t50 w=>
   DoX prog (aD 53 (.pointer (some ⟨b,0,none⟩)) t50) w (pk K) fun _ w=>
   RetX prog [.cell (.pointer (some ⟨b,0,none⟩)) 53,.val (.int .i64 1)] w K:=by
  intro h;rw[BV];exact cM 0 ho rfl fun w' ho=>hK _ _ ⟨by rw[Lx.next,if_pos h];rfl,ho.done⟩
 by_cases h1:i < 0
 ·simp only[rs,h1,decide_true,g_un];exact out (.inl h1)
 simp only[rs,h1,decide_false,bD Tryz.underlying9];by_cases h2:(s.length:Int) < i
 ·simp only[rs,h2,decide_true];exact out (.inr h2)
 simp only[rs,h2,decide_false];have hsk:Lx.eM s i=((Lx.skip s i.toNat:Nat):Int):=by rw[Lx.eM,if_neg (by omega)]
 have hN:Lx.next s i=Lx.token s (Lx.skip s i.toNat):=by rw[Lx.next,if_neg (by omega)]
 have hle:=Lx.Ji s (k:=i.toNat) (by omega);refine c_eq (Cf s i w1 hs) ?_;rw[hsk];generalize Lx.skip s i.toNat=a at *;simp only[bD Tryz.underlying9,rs];by_cases hend:(s.length:Int)≤(a:Int)
 ·have:a=s.length:=by omega
  simp only[hend,decide_true,i_t,Sb];refine cM 0 ho rfl fun w' ho=>hK _ _ ⟨?_,ho.done⟩;rw[hN,Lx.token,this,List.drop_length]
 ·simp only[hend,decide_false,i_f];exact bX 0 ho rfl (MZ s a w1 hs (by omega)) fun w' hb=>hK _ _ ⟨by rw[hN],hb⟩
end
section
open Eng Go.RowKit
def fltC (a e:Int):List Value:=[.int .i64 a,.int .i64 e]
def fltV (f:Int×Int):Value:=.agg (fltC f.1 f.2).toArray
def fltE (b:Nat)(f:Int×Int):Ent:=.cells b (fltC f.1 f.2) 26
theorem mF:aggN prog 26=some 2:=by kernel_rfl
theorem VV:(Tryz.prog.info? 26).map (·.size)=some 2:=by kernel_rfl
theorem Sk (a e:Int):∀v∈fltC a e,v.oneCell'=true:=by
 intro v hv;simp only[fltC,List.mem_cons,List.not_mem_nil,or_false] at hv;rcases hv with rfl|rfl<;>rfl
section
variable {w:World}{PK:PKT}{K:VWP}{S:Nat→Prop}{w0:World}{L:List Ent}
theorem Ia (ho:OwnS S w0 w L)(k:∀b w',OwnS S w0 w' (fltE b (0,0)::L)→K (.pointer (some ⟨b,0,none⟩)) w'):DoX prog (aN 26) w PK K:=
 dD (fun b=>.pointer (some ⟨b,0,none⟩)) (fltC 0 0) 26 (fun _=>by kernel_rfl) ho k
theorem jT (i:Nat){b:Nat}{f g:Int×Int}(ho:OwnS S w0 w L)(hi:L[i]?=some (fltE b f))(k:∀w',OwnS S w0 w' (L.set i (fltE b g))→K undef w'):DoX prog (aD 26 (.pointer (some ⟨b,0,none⟩)) (fltV g)) w PK K:=
 Bq i ho hi (new:=fltC g.1 g.2) VV (Sk _ _) rfl k
theorem SN:DoX prog (aG 26 #[]) w PK K=K (fltV (0,0)) w:=aT (by kernel_rfl)
theorem Uw {a e:Int}:DoX prog (aG 26 #[(0,.int .i64 a),(1,.int .i64 e)]) w PK K=K (fltV (a,e)) w:=aT (by kernel_rfl)
theorem cS {b:Nat}:DoX prog (mFA 53 (.pointer (some ⟨b,0,none⟩)) 0) w PK K=K (.pointer (some ⟨b,0,none⟩)) w:=cF (show fOff prog 53 0=some 0 by kernel_rfl)
theorem Ib {b:Nat}:DoX prog (mFA 53 (.pointer (some ⟨b,0,none⟩)) 1) w PK K=K (.pointer (some ⟨b,1,none⟩)) w:=cF (show fOff prog 53 1=some 1 by kernel_rfl)
theorem xH {b:Nat}:DoX prog (mFA 53 (.pointer (some ⟨b,0,none⟩)) 2) w PK K=K (.pointer (some ⟨b,2,none⟩)) w:=cF (show fOff prog 53 2=some 2 by kernel_rfl)
end
end
end Go.Proofs.YtoofficgclghoaaGreatDoor

namespace Go.Proofs.YtoofficgclghoaaGreatDoor
section
open Eng Go.RowKit
theorem draw {w:World}{F:World→Prop}(h:F w.drew):DrawX w F:=⟨h⟩
end
section
open Eng Go.RowKit
theorem VK:eqT prog 26 [(0,false),(1,false)]:=⟨by kernel_rfl,by kernel_rfl,by kernel_rfl,by kernel_rfl⟩
theorem Uf (x y:Int×Int):([(0,false),(1,false)]:List (Nat×Bool)).all (fun p=>Hl (fltC x.1 x.2).toArray[p.1]? (fltC y.1 y.2).toArray[p.1]?)=decide (x=y):=by
 have e:([(0,false),(1,false)]:List (Nat×Bool)).all (fun p=>Hl (fltC x.1 x.2).toArray[p.1]? (fltC y.1 y.2).toArray[p.1]?)=((x.1==y.1)&&((x.2==y.2)&&true)):=rfl;rw[e,Bool.eq_iff_iff];obtain⟨a,b⟩:=x;obtain⟨a',b'⟩:=y;simp
section
variable {w:World}{PK:PKT}{K:VWP}
theorem QW {xo yo:Operand}{x y:Int×Int}:DoX prog (mEq .eql 26 xo yo (fltV x) (fltV y)) w PK K=K (.bool (decide (x=y))) w:=by
 refine aT ?_;rw[←Uf];exact Lc VK rfl
end
end
end Go.Proofs.YtoofficgclghoaaGreatDoor



namespace Go.Proofs.YtoofficgclghoaaGreatDoor
section
open Eng Go.RowKit
theorem Tb.mono {w w':World}(h:Tb w)(hb:Below w.heap.size w w'):Tb w':=
 Go.Joins.tab_stays (show Tryz.prog.globalNamed "internal/strconv.uint64pow10"=some 3 by kernel_rfl) h hb (Nat.le_refl _)
theorem Tb.own {w w':World}{L:List Ent}(h:Tb w)(ho:Own w w' L):Tb w':=h.mono ho.done
end
end Go.Proofs.YtoofficgclghoaaGreatDoor








namespace Go.Proofs.YtoofficgclghoaaGreatDoor
section
open Eng Go.RowKit
section
variable {w:World}{PK:PKT}{K:VWP}{S:Nat→Prop}{w0:World}{L:List Ent}
end
abbrev gD (v:Value)(l:List (List UInt8)):Ent:=.row 9 1 v l.length (bR l)
end
section
open Eng Go.RowKit
theorem Qx {A:Nat→Prop}{wb:World}{o:Ob}{vk vc:Value}{cs:List Value}(h:ObAt A wb o vk vc cs){i:Nat}(hi:i < o.kids.length) :
  ∃v p,OV A wb v o.kids[i]∧∀W,Kept A wb W→(mIA 40 vc (.int .i64 (i:Int))).run prog W=.ok (.value (.pointer (some p))) W∧(aB 42 (.pointer (some p))).run prog W=.ok (.value v) W:=by
 obtain⟨b,off,cap,rfl,_⟩:=gA h.kids.1 (by omega);obtain⟨a,hl,hov,hget⟩:=OVs.get _ _ i hi h.all;refine⟨.agg a.toArray,⟨b,off+i*6,none⟩,hov,fun W hk=>⟨?_,?_⟩⟩
 ·have:=nM (P:=prog) (T:=40) (b:=b) (off:=off) (cap:=cap) (n:=o.kids.length) (k:=.i64) (i:=(i:Int)) (w:=W) Tryz.underlying40 szOb (by omega) (by omega);rw[Int.toNat_natCast] at this;exact this
 ·obtain⟨b',off',cap',he,hc⟩:=gA (h.kept hk).kids.1 (by omega);cases he;refine bL (v:=.agg a.toArray) (AtV.agg eU hl fun j v hj=>?_);rw[Nat.add_assoc];exact hc _ _ (hget j v hj)
theorem UZ {A:Nat→Prop}{wb:World}{o:Ob}{vk vc:Value}{cs:List Value}(h:ObAt A wb o vk vc cs){i:Nat}(hi:i < o.keys.length) :
  ∃p,∀W,Kept A wb W→(mIA 39 vk (.int .i64 (i:Int))).run prog W=.ok (.value (.pointer (some p))) W∧(aB 9 (.pointer (some p))).run prog W=.ok (.value (.string ⟨o.keys[i].toArray⟩)) W:=by
 obtain⟨b,off,cap,rfl,_⟩:=gA h.keys.1 (by omega);refine⟨⟨b,off+i,none⟩,fun W hk=>⟨?_,?_⟩⟩
 ·have:=nM (P:=prog) (T:=39) (b:=b) (off:=off) (cap:=cap) (n:=o.keys.length) (k:=.i64) (i:=(i:Int)) (w:=W) Tryz.underlying39 (show _=some 1 by kernel_rfl) (by omega) (by omega);rw[Int.toNat_natCast,Nat.mul_one] at this;exact this
 ·obtain⟨b',off',cap',he,hc⟩:=gA (h.kept hk).keys.1 (by omega);cases he;exact aM mZ (hc i _ (eB hi))
theorem TQ {w:World}{v:Value}{sz n:Nat}{cs:List Value}(h:Sl w v sz n cs):v.oneCell'=true:=by
 obtain⟨_,a,cap,rfl,_⟩:=h;rfl
theorem Nl {l:List (List UInt8)}:∀x∈bR l,x.oneCell'=true:=by
 intro x hx;obtain⟨y,_,rfl⟩:=List.mem_map.1 hx;rfl
section
variable {w:World}{PK:PKT}{K:VWP}{S:Nat→Prop}{w0:World}{L:List Ent}
theorem Tm (i:Nat){v v2:Value}{xs ys:List (List UInt8)}{cs:Array Bool}(ho:OwnS S w0 w L)(hi:L[i]?=some (gD v xs))(hs:Sl w v2 1 ys.length (bR ys))(hb:xs.length+ys.length≤1099511627776)
  (k:∀v' w',OwnS S w0 w' (L.set i (gD v' (xs++ys)))→K v' w'):DoX prog (mB .append #[39,39] 39 cs #[v,v2]) w PK K:=by
 refine EJ i Tryz.underlying39 (show elB prog 9 1 16=true by kernel_rfl) (by decide) ho hi hs Nl (by omega) (by omega) fun v' w' h=>k v' w' ?_;have e:gD v' (xs++ys)=.row 9 1 v' (xs.length+ys.length) (bR xs++bR ys):=by
  rw[gD,List.length_append];simp[bR]
 rw[e];exact h
theorem To (i:Nat){v:Value}{xs:List (List UInt8)}{y:List UInt8}{cs:Array Bool}{PK2:PKT}(ho:OwnS S w0 w L)(hi:L[i]?=some (gD v xs))(hb:xs.length≤100000000000)
  (k:∀v' w',OwnS S w0 w' (L.set i (gD v' (xs++[y])))→K v' w') :
  DoX prog (aP 39 1 #[(0,.string ⟨y.toArray⟩)]) w PK fun t w=>DoX prog (mB .append #[39,39] 39 cs #[v,t]) w PK2 K:=by
 refine dD (fun b=>.slice (some ⟨b,0,none⟩) 1 1) [.string ⟨y.toArray⟩] 9 (fun _=>by kernel_rfl) ho fun nb w4 h4=>?_;refine Tm (i+1) h4 (by rw[List.getElem?_cons_succ];exact hi) (ys:=[y]) (h4.sl 0 rfl 1 1 1 rfl) (by simp;omega) fun v' w5 h5=>k v' w5 h5.tail
end
theorem C8 {d:Nat}{o:Ob}(h:Vl.why d o=0):d≤24∧Vl.oF o=true∧¬(o.k=9∧1 < d)∧Vl.fits o=true∧o.s.length≤Vl.long o.k∧o.kids.length≤8191∧Vl.form o=true:=by
 unfold Vl.why at h;split at h
 ·cases h
 split at h
 ·cases h
 split at h
 ·cases h
 split at h
 ·cases h
 split at h
 ·cases h
 split at h
 ·cases h
 rename_i h1 h2 h3 h4 h5 h6
 rw[not_or] at h2;exact⟨by omega,by simpa using h2.1,h2.2,by simpa using h3,by omega,by omega,by simpa using h6⟩
end
section
open Eng
def uW (t3:Value)(w:World)(K:Ending→World→Prop):Prop:=
 DoX prog (aP 39 1 #[(0,t3)]) w (pk K) fun t68 w=>
 K (.returned t68) w
def qX (t0:Value)(w:World)(K:Ending→World→Prop):Prop:=
 DoX prog (mBox 42 t0) w (pk K) fun t1 w=>
 JoinX (fun J1=>
 DoX prog (mFA 42 t1 0) w (pk K) fun t8 w=>
 DoX prog (aB 3 t8) w (pk K) fun t9 w=>
 DoX prog (mEq .eql 3 (.tmp 9) (.const (.int .i64 0)) t9 (.int .i64 0)) w (pk K) fun t11 w=>
 IfX t11 (J1 [(.string ⟨#[110,117,108,108]⟩)] w) (DoX prog (mEq .eql 3 (.tmp 9) (.const (.int .i64 1)) t9 (.int .i64 1)) w (pk K) fun t13 w=>
 IfX t13 (DoX prog (aG 163 #[(0,(.string ⟨#[102,97,108,115,101]⟩)),(1,(.string ⟨#[116,114,117,101]⟩))]) w (pk K) fun t14 w=>
 DoX prog (mFA 42 t1 1) w (pk K) fun t15 w=>
 DoX prog (aB 2 t15) w (pk K) fun t16 w=>
 DoX prog (mIx 163 t14 t16) w (pk K) fun t17 w=>
 J1 [t17] w) (DoX prog (mEq .eql 3 (.tmp 9) (.const (.int .i64 2)) t9 (.int .i64 2)) w (pk K) fun t19 w=>
 IfX t19 (DoX prog (mFA 42 t1 1) w (pk K) fun t21 w=>
 DoX prog (aB 2 t21) w (pk K) fun t22 w=>
 CallX prog 158 #[t22] w (pk K) fun t23 w=>
 DoX prog (mExt t23 0) w (pk K) fun t24 w=>
 DoX prog (mExt t23 1) w (pk K) fun t25 w=>
 J1 [t24] w) (DoX prog (mEq .eql 3 (.tmp 9) (.const (.int .i64 3)) t9 (.int .i64 3)) w (pk K) fun t27 w=>
 IfX t27 (DoX prog (mFA 42 t1 1) w (pk K) fun t29 w=>
 DoX prog (aB 2 t29) w (pk K) fun t30 w=>
 CallX prog 159 #[t30] w (pk K) fun t31 w=>
 DoX prog (mExt t31 0) w (pk K) fun t32 w=>
 DoX prog (mExt t31 1) w (pk K) fun t33 w=>
 J1 [t32] w) (DoX prog (mEq .eql 3 (.tmp 9) (.const (.int .i64 4)) t9 (.int .i64 4)) w (pk K) fun t35 w=>
 IfX t35 (DoX prog (mFA 42 t1 3) w (pk K) fun t37 w=>
 DoX prog (aB 9 t37) w (pk K) fun t38 w=>
 CallX prog 160 #[t38] w (pk K) fun t39 w=>
 DoX prog (mExt t39 0) w (pk K) fun t40 w=>
 DoX prog (mExt t39 1) w (pk K) fun t41 w=>
 J1 [t40] w) (DoX prog (mEq .eql 3 (.tmp 9) (.const (.int .i64 5)) t9 (.int .i64 5)) w (pk K) fun t43 w=>
 IfX t43 (DoX prog (mFA 42 t1 3) w (pk K) fun t45 w=>
 DoX prog (aB 9 t45) w (pk K) fun t46 w=>
 CallX prog 55 #[t46] w (pk K) fun t47 w=>
 DoX prog (mExt t47 0) w (pk K) fun t48 w=>
 DoX prog (mExt t47 1) w (pk K) fun t49 w=>
 J1 [t48] w) (DoX prog (mEq .eql 3 (.tmp 9) (.const (.int .i64 8)) t9 (.int .i64 8)) w (pk K) fun t51 w=>
 IfX t51 (DoX prog (mFA 42 t1 1) w (pk K) fun t53 w=>
 DoX prog (aB 2 t53) w (pk K) fun t54 w=>
 CallX prog 158 #[t54] w (pk K) fun t55 w=>
 DoX prog (mExt t55 0) w (pk K) fun t56 w=>
 DoX prog (mExt t55 1) w (pk K) fun t57 w=>
 DoX prog (mFA 42 t1 2) w (pk K) fun t59 w=>
 DoX prog (aB 3 t59) w (pk K) fun t60 w=>
 CallX prog 158 #[t60] w (pk K) fun t61 w=>
 DoX prog (mExt t61 0) w (pk K) fun t62 w=>
 DoX prog (mExt t61 1) w (pk K) fun t63 w=>
 DoX prog (aP 39 3 #[(0,t56),(1,t62),(2,(.string ⟨#[82]⟩))]) w (pk K) fun t66 w=>
 K (.returned t66) w) (J1 [(.string ⟨#[]⟩)] w)))))))) (fun vs1 w=>∀_:Sg,uW (vs1.getD 0 undef) w K)
theorem Cu (t0:Value)(w:World)(K:Ending→World→Prop):wpX prog 69 [(19,[3])] [] none (aK Tryz.f134) (topQ prog [.tmp 2] K) (aJ [t0]) [] w=qX t0 w K:=by kernel_rfl
theorem Co {t0:Value}{w:World}{K:Ending→World→Prop}(h:qX t0 w K):Calls prog 134 #[t0] w K:=
 aA Tryz.func134 rfl rfl rfl rfl (Eq.mpr (Cu t0 w K) h)
def oE (t2 t9 t40:Value)(w:World)(N3:List Value→World→Prop)(K:Ending→World→Prop):Prop:=
 DoX prog (aB 62 t2) w (pk K) fun t61 w=>
 DoX prog (aB 42 t9) w (pk K) fun t62 w=>
 DoX prog (jI t61 #[t62]) w (pk K) fun t63 w=>
 DoX prog (mUn .not t63) w (pk K) fun t64 w=>
 IfX t64 (K (.returned (.bool false)) w) (DoX prog (mBin .add 3 t40 (.int .i64 1)) w (pk K) fun t65 w=>
 N3 [t65] w)
def pG (t1 t2 t3 t5 t38 t39 t40:Value)(w:World)(N3:List Value→World→Prop)(K:Ending→World→Prop):Prop:=
 DoX prog (mBin .lss 3 t40 t39) w (pk K) fun t41 w=>
 IfX t41 (DoX prog (mIA 40 t38 t40) w (pk K) fun t43 w=>
 DoX prog (aB 42 t43) w (pk K) fun t44 w=>
 DoX prog (aN 42) w (pk K) fun t9 w=>
 DoX prog (aD 42 t9 t44) w (pk K) fun _ w=>
 JoinX (fun J4=>
 DoX prog (mFA 42 t3 0) w (pk K) fun t45 w=>
 DoX prog (aB 3 t45) w (pk K) fun t46 w=>
 DoX prog (mEq .eql 3 (.tmp 46) (.const (.int .i64 7)) t46 (.int .i64 7)) w (pk K) fun t47 w=>
 IfX t47 (DoX prog (mFA 42 t3 4) w (pk K) fun t49 w=>
 DoX prog (aB 39 t49) w (pk K) fun t50 w=>
 DoX prog (mIA 39 t50 t40) w (pk K) fun t52 w=>
 DoX prog (aB 9 t52) w (pk K) fun t53 w=>
 CallX prog 55 #[t53] w (pk K) fun t54 w=>
 DoX prog (mExt t54 0) w (pk K) fun t55 w=>
 DoX prog (mExt t54 1) w (pk K) fun t56 w=>
 DoX prog (aB 30 t1) w (pk K) fun t57 w=>
 DoX prog (jI t57 #[t55]) w (pk K) fun t59 w=>
 DoX prog (mUn .not t59) w (pk K) fun t60 w=>
 IfX t60 (K (.returned (.bool false)) w) (J4 [] w)) (J4 [] w)) (fun vs4 w=>∀_:Sg,oE t2 t9 t40 w N3 K)) (DoX prog (aB 30 t1) w (pk K) fun t66 w=>
 DoX prog (mIA 163 t5 (.int .i64 1)) w (pk K) fun t67 w=>
 DoX prog (aB 9 t67) w (pk K) fun t68 w=>
 DoX prog (jI t66 #[t68]) w (pk K) fun t69 w=>
 K (.returned t69) w)
def gZ (t1 t2 t3 t5:Value)(w:World)(K:Ending→World→Prop):Prop:=
 DoX prog (aB 30 t1) w (pk K) fun t32 w=>
 DoX prog (mIA 163 t5 (.int .i64 0)) w (pk K) fun t33 w=>
 DoX prog (aB 9 t33) w (pk K) fun t34 w=>
 DoX prog (jI t32 #[t34]) w (pk K) fun t35 w=>
 DoX prog (mUn .not t35) w (pk K) fun t36 w=>
 IfX t36 (K (.returned (.bool false)) w) (DoX prog (mFA 42 t3 5) w (pk K) fun t37 w=>
 DoX prog (aB 40 t37) w (pk K) fun t38 w=>
 DoX prog (mB .len #[40] 3 #[false] #[t38]) w (pk K) fun t39 w=>
 LoopX [(.int .i64 0)] w (fun vs3 w N3=>∀_:Sg,pG t1 t2 t3 t5 t38 t39 (vs3.getD 0 undef) w N3 K))
def oU (t1 t16 t17 t18:Value)(w:World)(N2:List Value→World→Prop)(K:Ending→World→Prop):Prop:=
 DoX prog (mBin .lss 3 t18 t17) w (pk K) fun t19 w=>
 IfX t19 (DoX prog (mIA 39 t16 t18) w (pk K) fun t20 w=>
 DoX prog (aB 9 t20) w (pk K) fun t21 w=>
 DoX prog (aB 30 t1) w (pk K) fun t22 w=>
 DoX prog (jI t22 #[t21]) w (pk K) fun t24 w=>
 DoX prog (mUn .not t24) w (pk K) fun t25 w=>
 IfX t25 (K (.returned (.bool false)) w) (DoX prog (mBin .add 3 t18 (.int .i64 1)) w (pk K) fun t26 w=>
 N2 [t26] w)) (K (.returned (.bool true)) w)
def lC (t0 t1 t2:Value)(w:World)(K:Ending→World→Prop):Prop:=
 DoX prog (mBox 42 t0) w (pk K) fun t3 w=>
 DoX prog (aG 163 #[(0,(.string ⟨#[91]⟩)),(1,(.string ⟨#[93]⟩))]) w (pk K) fun t12 w=>
 DoX prog (aN 163) w (pk K) fun t5 w=>
 DoX prog (aD 163 t5 t12) w (pk K) fun _ w=>
 JoinX (fun J1=>
 DoX prog (mFA 42 t3 0) w (pk K) fun t13 w=>
 DoX prog (aB 3 t13) w (pk K) fun t14 w=>
 DoX prog (mEq .eql 3 (.tmp 14) (.const (.int .i64 6)) t14 (.int .i64 6)) w (pk K) fun t28 w=>
 IfX t28 (J1 [] w) (DoX prog (mEq .eql 3 (.tmp 14) (.const (.int .i64 7)) t14 (.int .i64 7)) w (pk K) fun t30 w=>
 IfX t30 (DoX prog (aG 163 #[(0,(.string ⟨#[60,60]⟩)),(1,(.string ⟨#[62,62]⟩))]) w (pk K) fun t31 w=>
 DoX prog (aD 163 t5 t31) w (pk K) fun _ w=>
 J1 [] w) (DoX prog (aB 42 t3) w (pk K) fun t15 w=>
 CallX prog 134 #[t15] w (pk K) fun t16 w=>
 DoX prog (mB .len #[39] 3 #[false] #[t16]) w (pk K) fun t17 w=>
 LoopX [(.int .i64 0)] w (fun vs2 w N2=>∀_:Sg,oU t1 t16 t17 (vs2.getD 0 undef) w N2 K)))) (fun vs1 w=>∀_:Sg,gZ t1 t2 t3 t5 w K)
theorem Ae (t0 t1 t2:Value)(w:World)(K:Ending→World→Prop):wpX prog 70 [(13,[]),(22,[])] [(4,[18]),(16,[40])] none (aK Tryz.f133) (topQ prog [.tmp 4] K) (aJ [t0,t1,t2]) [] w=lC t0 t1 t2 w K:=by kernel_rfl
theorem Aj {t0 t1 t2:Value}{w:World}{K:Ending→World→Prop}(h:lC t0 t1 t2 w K):Calls prog 133 #[t0,t1,t2] w K:=
 aA Tryz.func133 rfl rfl rfl rfl (Eq.mpr (Ae t0 t1 t2 w K) h)
def oY (t0 t1:Value)(w:World)(K:Ending→World→Prop):Prop:=
 DoX prog (mBox 30 t0) w (pk K) fun t2 w=>
 DoX prog (aN 62) w (pk K) fun t3 w=>
 DoX prog (LL (.func 133) #[] #[t2,t3]) w (pk K) fun t4 w=>
 DoX prog (aD 62 t3 t4) w (pk K) fun _ w=>
 DoX prog (aB 62 t3) w (pk K) fun t5 w=>
 DoX prog (aB 42 t1) w (pk K) fun t6 w=>
 DoX prog (jI t5 #[t6]) w (pk K) fun t7 w=>
 K (.returned (.tuple #[])) w
theorem BI (t0 t1:Value)(w:World)(K:Ending→World→Prop):wpX prog 8 [] [] none (aK Tryz.f132) (topQ prog [] K) (aJ [t0,t1]) [] w=oY t0 t1 w K:=by kernel_rfl
theorem BU {t0 t1:Value}{w:World}{K:Ending→World→Prop}(h:oY t0 t1 w K):Calls prog 132 #[t0,t1] w K:=
 aA Tryz.func132 rfl rfl rfl rfl (Eq.mpr (BI t0 t1 w K) h)
def sN (t0:Value)(w:World)(K:Ending→World→Prop):Prop:=
 DoX prog (mBox 42 t0) w (pk K) fun t1 w=>
 DoX prog (LL (.func 132) #[] #[t1]) w (pk K) fun t3 w=>
 K (.returned t3) w
theorem DY (t0:Value)(w:World)(K:Ending→World→Prop):wpX prog 4 [] [] none (aK Tryz.f97) (topQ prog [.tmp 2] K) (aJ [t0]) [] w=sN t0 w K:=by kernel_rfl
theorem D8 {t0:Value}{w:World}{K:Ending→World→Prop}(h:sN t0 w K):Calls prog 97 #[t0] w K:=
 aA Tryz.func97 rfl rfl rfl rfl (Eq.mpr (DY t0 w K) h)
def iC (x0:Nat)(K:Ending→World→Prop):=pdM prog [.val (.slice none 0 0)] K [(mkD x0)]
def cD (t0 t1:Value)(w:World)(K:Ending→World→Prop):Prop:=
 DoX prog (mBox 39 t0) w (pk K) fun t2 w=>
 RangeX prog none 1 t1 w (fun l1 as1 w R1=>
 BegX prog l1 w (fun w=>
 DoX prog (aB 39 t2) w pkR fun t8 w=>
 DoX prog (aP 39 1 #[(0,(as1.getD 0 undef))]) w pkR fun t10 w=>
 DoX prog (mB .append #[39,39] 39 #[false,false] #[t8,t10]) w pkR fun t11 w=>
 DoX prog (aD 39 t2 t11) w pkR fun _ w=>
 EndX prog l1 none w R1))
 [(none,fun r1 w=>
 DoX prog (aB 39 t2) w (iC r1 K) fun t12 w=>
 Dq prog [.val t12] K [(mkD r1)] .returning w)]
theorem gN (t0 t1:Value)(w:World)(K:Ending→World→Prop):wpX prog 13 [] [] none (aK Tryz.f131) (topM prog [.tmp 4] K) (aJ [t0,t1]) [] w=cD t0 t1 w K:=by kernel_rfl
theorem gL {t0 t1:Value}{w:World}{K:Ending→World→Prop}(h:cD t0 t1 w K):Calls prog 131 #[t0,t1] w K:=
 Kp Tryz.func131 rfl rfl rfl rfl (Eq.mpr (gN t0 t1 w K) h)
def dY (t0:Value)(w:World)(K:Ending→World→Prop):Prop:=
 CallX prog 131 #[(.slice none 0 0),t0] w (pk K) fun t4 w=>
 K (.returned t4) w
theorem pR (t0:Value)(w:World)(K:Ending→World→Prop):wpX prog 5 [] [] none (aK Tryz.f96) (topQ prog [.tmp 2] K) (aJ [t0]) [] w=dY t0 w K:=by kernel_rfl
theorem pN {t0:Value}{w:World}{K:Ending→World→Prop}(h:dY t0 w K):Calls prog 96 #[t0] w K:=
 aA Tryz.func96 rfl rfl rfl rfl (Eq.mpr (pR t0 w K) h)
def zM (t0:Value)(w:World)(K:Ending→World→Prop):Prop:=
 DoX prog (mBox 42 t0) w (pk K) fun t1 w=>
 DoX prog (aB 42 t1) w (pk K) fun t5 w=>
 CallX prog 50 #[t5] w (pk K) fun t6 w=>
 DoX prog (mEq .neq 24 (.tmp 7) (.const (.int .i64 0)) t6 (.int .i64 0)) w (pk K) fun t8 w=>
 IfX t8 (K (.returned (.tuple #[(.string ⟨#[]⟩),t6])) w) (DoX prog (mFA 42 t1 0) w (pk K) fun t10 w=>
 DoX prog (aB 3 t10) w (pk K) fun t11 w=>
 DoX prog (mEq .eql 3 (.tmp 11) (.const (.int .i64 9)) t11 (.int .i64 9)) w (pk K) fun t12 w=>
 IfX t12 (K (.returned (.tuple #[(.string ⟨#[]⟩),(.int .i64 10)])) w) (DoX prog (aB 42 t1) w (pk K) fun t13 w=>
 CallX prog 97 #[t13] w (pk K) fun t14 w=>
 CallX prog 96 #[t14] w (pk K) fun t15 w=>
 CallX prog 28 #[t15] w (pk K) fun t16 w=>
 K (.returned (.tuple #[t16,(.int .i64 0)])) w))
theorem FA (t0:Value)(w:World)(K:Ending→World→Prop):wpX prog 17 [] [] none (aK Tryz.f56) (topQ prog [.tmp 2,.tmp 3] K) (aJ [t0]) [] w=zM t0 w K:=by kernel_rfl
theorem Gm {t0:Value}{w:World}{K:Ending→World→Prop}(h:zM t0 w K):Calls prog 56 #[t0] w K:=
 aA Tryz.func56 rfl rfl rfl rfl (Eq.mpr (FA t0 w K) h)
end
section
open Eng Go.RowKit
section
variable {w:World}{PK:PKT}{K:VWP}{S:Nat→Prop}{w0:World}
theorem Q1 {A B C:List Ent}:(A++(B++C)).Perm (B++(A++C)):=by
 rw[←List.append_assoc,←List.append_assoc];exact List.Perm.append_right C List.perm_append_comm
theorem Jb {A B M X:List Ent}(h:OwnS S w0 w (A++(B++(M++X)))):OwnS S w0 w (B++(M++(A++X))):=h.perm (Q1.trans (Q1.append_left _))
theorem JJ {A B M X:List Ent}(h:OwnS S w0 w (B++(M++(A++X)))):OwnS S w0 w (A++(B++(M++X))):=h.perm (Q1.trans (Q1.append_left _)).symm
theorem V3 {b:Nat}:DoX prog (mIA 163 (.pointer (some ⟨b,0,none⟩)) (.int .i64 0)) w PK K=K (.pointer (some ⟨b,0,none⟩)) w:=aT (by kernel_rfl)
theorem V1 {b:Nat}:DoX prog (mIA 163 (.pointer (some ⟨b,0,none⟩)) (.int .i64 1)) w PK K=K (.pointer (some ⟨b,1,none⟩)) w:=aT (by kernel_rfl)
theorem V9 {x y:Value}:DoX prog (mIx 163 (.agg #[x,y]) (.int .i64 0)) w PK K=K x w:=aT (by kernel_rfl)
theorem VT {x y:Value}:DoX prog (mIx 163 (.agg #[x,y]) (.int .i64 1)) w PK K=K y w:=aT (by kernel_rfl)
end
theorem Ng (o:Ob)(v:Value)(d:Nat)(w:World)(ht:Tb w)(hov:OV (InW w) w v o)(hc:Vl.check d o=0)(k6:o.k≠6)(k7:o.k≠7)(k9:o.k≠9) :
  Ret prog 134 #[v] w (fun v' w'=>Own w w' [gD v' (Wr.parts o)]):=by
 obtain⟨vk,vc,cs,rfl,ha⟩:=hov.open;obtain⟨_,huse,_,hfit,hsl,_,_⟩:=C8 (Wr.Gk hc);refine aO fun K hK=>Co ?_;unfold qX;refine rR o ha.keys.one ha.kids.one (Own.start w) fun b w1 ho=>?_;rw[Wr.parts_eq,if_neg k6,if_neg k7] at hK;refine join fun J hJ=>?_;have fin:∀{t:List UInt8} {W:World} {L:List Ent},Own w W L→o.k≠8→t=Wr.leaf o.k o.n o.s→J [.string ⟨t.toArray⟩] W:=by
  rintro t W L ho h8 rfl;refine hJ _ _ fun _=>?_;simp only[uW,gd];rw[if_neg h8] at hK;refine dD (fun b=>.slice (some ⟨b,0,none⟩) 1 1) [.string ⟨(Wr.leaf o.k o.n o.s).toArray⟩] 9 (fun _=>by kernel_rfl) ho fun nb w4 h4=>?_;exact hK _ _ ((h4.Si 1 1 1 rfl (by omega) (by omega)).sub (.cons_cons _ (List.nil_sublist _)))
 rw[oG,ob_k ho 0 rfl];simp only[rs,IQ,QQ,K8,ob_n ho 0 rfl,ob_s ho 0 rfl];by_cases k0:o.k=0
 ·simp only[k0,decide_true,i_t];exact fin (t:=Wr.nul) ho (by omega) (by simp[Wr.leaf,k0])
 by_cases k1:o.k=1
 ·simp only[k1,Int.reduceEq,decide_true,decide_false,i_t,i_f];have hf:0≤o.n∧o.n≤1:=by simpa[Vl.fits,k1] using hfit
  have hb:∀{PK:PKT} {K:VWP},DoX prog (aG 163 #[(0,(.string ⟨#[102,97,108,115,101]⟩)),(1,(.string ⟨#[116,114,117,101]⟩))]) w1 PK K=K (.agg #[.string ⟨Wr.fal.toArray⟩,.string ⟨Wr.tru.toArray⟩]) w1:=aT (by kernel_rfl);rw[hb,ob_n ho 0 rfl];rcases (show o.n=0∨o.n=1 by omega) with hn|hn
  ·skip
   rw[hn,V9];exact fin ho (by omega) (by simp[Wr.leaf,k1,hn])
  ·rw[hn,VT];exact fin ho (by omega) (by simp[Wr.leaf,k1,hn])
 by_cases k2:o.k=2
 ·simp only[k2,Int.reduceEq,decide_true,decide_false,i_t,i_f];refine dE (IX o.n w1 (ht.own ho)) rfl ho fun w2 ho=>?_;simp only[ex];exact fin ho (by omega) (by simp[Wr.leaf,k2,Wr.num])
 by_cases k3:o.k=3
 ·simp only[k3,Int.reduceEq,decide_true,decide_false,i_t,i_f];refine dE (O3 o.n w1) rfl ho fun w2 ho=>?_;simp only[ex];exact fin ho (by omega) (by simp[Wr.leaf,k3])
 by_cases k4:o.k=4
 ·simp only[k4,Int.reduceEq,decide_true,decide_false,i_t,i_f];have hl:Vl.long o.k=32767:=by rw[k4];rfl
  refine dE (Sj o.s w1 (by omega)) rfl ho fun w2 ho=>?_;simp only[ex];exact fin ho (by omega) (by simp[Wr.leaf,k4])
 by_cases k5:o.k=5
 ·simp only[k5,Int.reduceEq,decide_true,decide_false,i_t,i_f];refine dE (Fa o.s w1) rfl ho fun w2 ho=>?_;simp only[ex];exact fin ho (by omega) (by simp[Wr.leaf,k5])
 have k8:o.k=8:=by
  unfold Vl.oF Vl.used at huse;simp only[k0,k1,k2,k3,k4,k5,k6,k7,k9,or_self,if_false] at huse;by_cases h:o.k=8
  ·exact h
  ·simp[h] at huse
 rw[if_pos k8] at hK;simp only[k8,Int.reduceEq,decide_true,decide_false,i_t,i_f];refine dE (IX o.n w1 (ht.own ho)) rfl ho fun w2 ho=>?_;simp only[ex,ob_g ho 0 rfl];refine dE (IX o.g w2 (ht.own ho)) rfl ho fun w3 ho=>?_;simp only[ex];refine dD (fun b=>.slice (some ⟨b,0,none⟩) 3 3) [.string ⟨(Wr.num o.n).toArray⟩,.string ⟨(Wr.num o.g).toArray⟩,.string ⟨#[82]⟩] 9 (fun _=>by kernel_rfl) ho fun nb w4 h4=>?_;exact hK _ _ ((h4.Si 1 3 3 rfl (by omega) (by omega)).sub (.cons_cons _ (List.nil_sublist _)))
end
section
open Eng Go.RowKit
def yldE (b lb:Nat):Ent:=.cells b [.func (.yield lb) #[] #[]] 30
def telV (b1 b2:Nat):Value:=.func (.func 133) #[] #[.pointer (some ⟨b1,0,none⟩),.pointer (some ⟨b2,0,none⟩)]
def telE (b1 b2:Nat):Ent:=.cells b2 [telV b1 b2] 62
def endE (b:Nat)(x y:List UInt8):Ent:=.cells b [.string ⟨x.toArray⟩,.string ⟨y.toArray⟩] 163
theorem nFs:dF prog 30=true:=by kernel_rfl
theorem nFo:dF prog 62=true:=by kernel_rfl
theorem sz2:(Tryz.prog.info? 163).map (·.size)=some 2:=by kernel_rfl
theorem G9:dQ prog 133=true:=by kernel_rfl
def lT (o:Ob)(i:Nat):List (List UInt8):=if o.k=7 then Wr.bW (o.keys.take i) (o.kids.take i) else Wr.eK (o.kids.take i)
theorem QP {ps:List (List UInt8)}{j:Nat}{x:Value}(h:(bR ps)[j]?=some x):∃y,ps[j]?=some y∧x=.string ⟨y.toArray⟩:=by
 unfold bR at h;rw[List.getElem?_map] at h;cases hy:ps[j]? with
|none=>rw[hy] at h;cases h
|some y=>rw[hy] at h;exact⟨y,rfl,by simpa[strV] using h.symm⟩
theorem Pb (o:Ob)(i:Nat):∃t,lT o o.kids.length=lT o i++t:=by
 unfold lT;split
 ·rw[Wr.Dd _ _ _ (.inr (Nat.le_refl _))];exact⟨_,Wr.DE o.keys o.kids i⟩
 ·rw[List.take_length];exact⟨Wr.eK (o.kids.drop i),by rw[←Wr.CW,List.take_append_drop]⟩
theorem QV (A:Nat→Prop)(wb:World)(S:Nat→Prop)(w0:World)(L0:Loop)(lb df b1 b2:Nat)(R:Nat→List Ent→Prop)(vs:List Value)(Kf:World→Prop)
  (hI:∀(L:List Ent) (W:World),OwnS S w0 W L→Tb W∧Kept A wb W) (hA:∀(L:List Ent) (W:World),OwnS S w0 W L→∀b,A b→b < W.heap.size)
  (hy:∀(k:Nat) (v:Value) (M X:List Ent) (W:World),vs[k]?=some v→R k M→OwnS S w0 W (pQ L0 lb df++(M++X)) →
   Yld prog lb [v] W (fun r W'=>(r=.bool true∧∃M',R (k+1) M'∧OwnS S w0 W' (pQ L0 lb df++(M'++X)))∨(r=.bool false∧Kf W'))) (n:Nat) :
  ∀(o:Ob) (v:Value) (d:Nat) (M X:List Ent) (k:Nat) (w1:World) (K:Ending→World→Prop),o.wt≤n→OV A wb v o→o.wt≤100000000→Vl.check d o=0→1≤d→o.k≠9 →
   yldE b1 lb∈X→telE b1 b2∈X→OwnS S w0 w1 (pQ L0 lb df++(M++X))→R k M→(∀(j:Nat) (x:List UInt8),(Wr.parts o)[j]?=some x→vs[k+j]?=some (.string ⟨x.toArray⟩)) →
   (∀(M':List Ent) (W:World),R (k+(Wr.parts o).length) M'→OwnS S w0 W (pQ L0 lb df++(M'++X))→K (.returned (.bool true)) W)→(∀W,Kf W→K (.returned (.bool false)) W) →
   Calls prog 133 #[v,.pointer (some ⟨b1,0,none⟩),.pointer (some ⟨b2,0,none⟩)] w1 K:=by
 induction n with
|zero=>intro o v d M X k w1 K h;have:=o.zE;omega
|succ n ih=>
 intro o v d M X k w1 K hn hov hb hc hd k9 hX1 hX2 ho hR hseg hK hKf;obtain⟨vk,vc,cs,rfl,ha⟩:=hov.open;obtain⟨hd24,_,_,_,hsl,hkl,hform⟩:=C8 (Wr.Gk hc);have hkc:=Wr.N7 hc
 -- the cells of the closure
 have c1:∀{A' M':List Ent} {W:World},OwnS S w0 W (A'++(pQ L0 lb df++(M'++X)))→∀{PK:PKT} {K:VWP},DoX prog (aB 30 (.pointer (some ⟨b1,0,none⟩))) W PK K=K (.func (.yield lb) #[] #[]) W:=fun h=>aW nFs (aU (h.mem (e:=yldE b1 lb) (by simp[hX1])) (i:=0) rfl);have c2:∀{A' M':List Ent} {W:World},OwnS S w0 W (A'++(pQ L0 lb df++(M'++X)))→∀{PK:PKT} {K:VWP},DoX prog (aB 62 (.pointer (some ⟨b2,0,none⟩))) W PK K=K (telV b1 b2) W:=fun h=>aW nFo (aU (h.mem (e:=telE b1 b2) (by simp[hX2])) (i:=0) rfl)
 -- one piece is handed out
 have give:∀(A' M':List Ent) (j:Nat) (x:List UInt8) (W:World) (PK:PKT) (K':VWP),(Wr.parts o)[j]?=some x→R (k+j) M'→OwnS S w0 W (A'++(pQ L0 lb df++(M'++X))) →
   (∀M2 W2,R (k+j+1) M2→OwnS S w0 W2 (A'++(pQ L0 lb df++(M2++X)))→K' (.bool true) W2)→(∀W2,Kf W2→K' (.bool false) W2) →
   DoX prog (jI (.func (.yield lb) #[] #[]) #[.string ⟨x.toArray⟩]) W PK K':=by
  intro A' M' j x W PK K' hx hR ho h1 h2;refine Wl (hy (k+j) _ M' (A'++X) W (hseg j x hx) hR (Jb ho)) ?_;rintro r W2 (⟨rfl,M2,hR2,ho2⟩|⟨rfl,hk⟩)
  ·exact h1 M2 W2 hR2 (JJ ho2)
  ·exact h2 W2 hk
 refine Aj ?_;unfold lC;refine rR o ha.keys.one ha.kids.one ho fun b3 w2 ho=>?_;have mb:∀{x y:List UInt8} {W:World} {PK:PKT} {K:VWP},DoX prog (aG 163 #[(0,.string ⟨x.toArray⟩),(1,.string ⟨y.toArray⟩)]) W PK K=K (.agg #[.string ⟨x.toArray⟩,.string ⟨y.toArray⟩]) W:=aT (by kernel_rfl);rw[mb (x:=[91]) (y:=[93])];refine dD (fun b=>.pointer (some ⟨b,0,none⟩)) [.string ⟨#[]⟩,.string ⟨#[]⟩] 163 (fun _=>by kernel_rfl) ho fun b5 w3 ho=>?_;refine Bq 0 ho rfl (new:=[.string ⟨([91]:List UInt8).toArray⟩,.string ⟨([93]:List UInt8).toArray⟩]) sz2 (by simp;exact⟨rfl,rfl⟩) rfl fun w4 ho=>?_;have ho:OwnS S w0 w4 ([endE b5 [91] [93],obE b3 o vk vc]++(pQ L0 lb df++(M++X))):=ho;refine join fun J hJ=>?_
 -- behind the choice of the brackets
 have main:∀(x y:List UInt8) (W:World),OwnS S w0 W ([endE b5 x y,obE b3 o vk vc]++(pQ L0 lb df++(M++X)))→(o.k=6∨o.k=7)→Wr.parts o=[x]++(lT o o.kids.length++[y]) →
   gZ (.pointer (some ⟨b1,0,none⟩)) (.pointer (some ⟨b2,0,none⟩)) (.pointer (some ⟨b3,0,none⟩)) (.pointer (some ⟨b5,0,none⟩)) W K:=by
  intro x y W ho h67 hp;unfold gZ;have le0:∀{A':List Ent} {W:World},OwnS S w0 W (endE b5 x y::A')→∀{PK:PKT} {K:VWP},DoX prog (aB 9 (.pointer (some ⟨b5,0,none⟩))) W PK K=K (.string ⟨x.toArray⟩) W:=fun h=>aW mZ (h.cell 0 rfl 0 rfl);have le1:∀{A':List Ent} {W:World},OwnS S w0 W (endE b5 x y::A')→∀{PK:PKT} {K:VWP},DoX prog (aB 9 (.pointer (some ⟨b5,1,none⟩))) W PK K=K (.string ⟨y.toArray⟩) W:=fun h=>aW mZ (h.cell 0 rfl 1 rfl);rw[c1 ho,V3,le0 ho];refine give [endE b5 x y,obE b3 o vk vc] M 0 x W _ _ (by rw[hp];rfl) hR ho ?_ (fun W2 hk=>by rw[CU,Bool.not_false,i_t];exact hKf W2 hk);intro M2 W2 hR2 ho;rw[CU,Bool.not_true,i_f,mH,cX ho 1 rfl];have lc:∀{W:World} {L:List Ent},OwnS S w0 W L→∀{PK:PKT} {K:VWP},DoX prog (mB .len #[40] 3 #[false] #[vc]) W PK K=K (.int .i64 (o.kids.length:Int)) W:=fun ho=>bF Tryz.underlying40 (ha.kept (hI _ _ ho).2).kids.1;rw[lc ho];have hmem:∀(i q:Nat) (z:List UInt8),(lT o i)[q]?=some z→(Wr.parts o)[1+q]?=some z:=by
   intro i q z hz;obtain⟨t,ht⟩:=Pb o i;rw[hp,List.getElem?_append_right (by simp),List.length_singleton,Nat.add_sub_cancel_left,ht,List.append_assoc,List.getElem?_append_left (List.getElem?_eq_some_iff.1 hz).1];exact hz
  refine loop (fun vs' w'=>∃(i:Nat) (M':List Ent),vs'=[.int .i64 i]∧i≤o.kids.length∧R (k+1+(lT o i).length) M'∧OwnS S w0 w' ([endE b5 x y,obE b3 o vk vc]++(pQ L0 lb df++(M'++X)))) (fun vs' _=>o.kids.length - n0 vs')
   ⟨0,M2,rfl,by omega,by simpa[lT,Wr.bW,Wr.eK] using hR2,ho⟩ ?_
  rintro vs' w5 ⟨i,M3,rfl,hi,hR3,ho⟩ _;simp only[pG,gd,rs];by_cases hlt:(i:Int) < (o.kids.length:Int)
  ·have hi':i < o.kids.length:=by omega
   simp only[hlt,decide_true,i_t];obtain⟨v,p,hv,hr⟩:=Qx ha hi';obtain⟨r1,r2⟩:=hr w5 (hI _ _ ho).2;refine aT r1 |>.mpr (aT r2 |>.mpr ?_);obtain⟨vk',vc',cs',rfl,hkid⟩:=hv.open;refine bU ho fun b9 w6 ho=>?_;refine bA 0 hkid.keys.one hkid.kids.one ho rfl fun w7 ho=>?_;have ho:OwnS S w0 w7 ([obE b9 o.kids[i] vk' vc',endE b5 x y,obE b3 o vk vc]++(pQ L0 lb df++(M3++X))):=ho;refine join fun J2 hJ2=>?_;have hkw:=AG hi'
   -- the kid,behind its key
   have kid:∀(m:Nat) (M4:List Ent) (W:World),(lT o (i+1)).length=m+(Wr.parts o.kids[i]).length→(∀(j:Nat) (z:List UInt8),(Wr.parts o.kids[i])[j]?=some z→(Wr.parts o)[1+m+j]?=some z)→R (k+1+m) M4 →
     OwnS S w0 W ([obE b9 o.kids[i] vk' vc',endE b5 x y,obE b3 o vk vc]++(pQ L0 lb df++(M4++X)))→J2 [] W:=by
    intro m M4 W hm hsub hR4 ho;refine hJ2 _ _ fun _=>?_;unfold oE;rw[c2 ho,ob_v ho 0 rfl];refine PR G9 ?_;refine D3 (ih o.kids[i] _ (d+1) M4 ([obE b9 o.kids[i] vk' vc',endE b5 x y,obE b3 o vk vc]++X) (k+1+m) W
     (fun e w'=>(e=.returned (.bool true)∧∃M',R (k+1+m+(Wr.parts o.kids[i]).length) M'∧OwnS S w0 w' (pQ L0 lb df++(M'++([obE b9 o.kids[i] vk' vc',endE b5 x y,obE b3 o vk vc]++X))))∨(e=.returned (.bool false)∧Kf w'))
     (by omega) hkid.ov (by omega) (hkc _ (List.getElem_mem hi')) (by omega) ?_ (by simp[hX1]) (by simp[hX2]) (Jb ho) hR4 ?_ (fun M' W' h1 h2=>.inl ⟨rfl,M',h1,h2⟩) (fun W' h=>.inr ⟨rfl,h⟩)) ?_
    ·intro h9;have:=(C8 (Wr.Gk (hkc _ (List.getElem_mem hi')))).2.2.1;exact this ⟨h9,by omega⟩
    ·intro j z hz;rw[show k+1+m+j=k+(1+m+j) by omega];exact hseg _ z (hsub j z hz)
    ·rintro e w8 (⟨rfl,M5,hR5,ho5⟩|⟨rfl,hk⟩)
     ·simp only[Cont];rw[CU,Bool.not_true,i_f,CX,aC (by omega) (by omega)];refine bG ⟨i+1,M5,rfl,by omega,?_,(JJ ho5).tail⟩ (by simp[n0,RowKit.intOf];omega);rw[hm,←Nat.add_assoc];exact hR5
     ·simp only[Cont];rw[CU,Bool.not_false,i_t];exact hKf w8 hk
   rw[oG,ob_k ho 2 rfl];simp only[rs];by_cases k7:o.k=7
   ·have hle:o.keys.length=o.kids.length:=by
     have hf:=hform;simp only[Vl.form,k7,true_or,decide_true,Bool.not_true,Bool.false_or,Bool.and_eq_true] at hf;have:=hf.2;simp only[Vl.rising,Bool.and_eq_true,decide_eq_true_eq] at this;exact this.1
    have hik:i < o.keys.length:=by omega
    have hs:lT o (i+1)=lT o i++(Pl.xF o.keys[i]).1::Wr.parts o.kids[i]:=by
     unfold lT;rw[if_pos k7,if_pos k7];exact Wr.E8 o.keys o.kids i hik hi'
    simp only[k7,decide_true,i_t,nT,dN ho 2 rfl];obtain⟨pk',hrk⟩:=UZ ha hik;obtain⟨q1,q2⟩:=hrk w7 (hI _ _ ho).2;refine aT q1 |>.mpr (aT q2 |>.mpr ?_);refine dV (Fa o.keys[i] w7) ?_;rintro v8 w8 ⟨rfl,hb8⟩;have ho:=ho.grow hb8;simp only[ex];rw[c1 ho];refine give [obE b9 o.kids[i] vk' vc',endE b5 x y,obE b3 o vk vc] M3 (1+(lT o i).length) (Pl.xF o.keys[i]).1 w8 _ _ (hmem (i+1) _ _ ?_) (by rw[←Nat.add_assoc];exact hR3) ho (fun M4 W4 hR4 ho4=>?_) (fun W hk=>?_)
    ·rw[hs,List.getElem?_append_right (Nat.le_refl _)];simp
    ·rw[CU,Bool.not_true,i_f];refine kid ((lT o i).length+1) M4 W4 ?_ ?_ ?_ ho4
     ·rw[hs];simp;omega
     ·intro j z hz;rw[Nat.add_assoc];refine hmem (i+1) _ z ?_;rw[hs,List.getElem?_append_right (by omega),show (lT o i).length+1+j - (lT o i).length=j+1 by omega,List.getElem?_cons_succ];exact hz
     ·rw[show k+1+((lT o i).length+1)=k+(1+(lT o i).length)+1 by omega];exact hR4
    ·rw[CU,Bool.not_false,i_t];exact hKf W hk
   ·have hs:lT o (i+1)=lT o i++Wr.parts o.kids[i]:=by
     unfold lT;rw[if_neg k7,if_neg k7];exact Wr.LA o.kids i hi'
    simp only[k7,decide_false,i_f];refine kid (lT o i).length M3 w7 (by rw[hs,List.length_append]) ?_ hR3 ho;intro j z hz;rw[Nat.add_assoc];refine hmem (i+1) _ z ?_;rw[hs,List.getElem?_append_right (by omega),Nat.add_sub_cancel_left];exact hz
  ·simp only[hlt,decide_false,i_f];have hie:i=o.kids.length:=by omega
   subst hie;rw[c1 ho,V1,le1 ho];refine give [endE b5 x y,obE b3 o vk vc] M3 (1+(lT o o.kids.length).length) y w5 _ _ ?_ (by rw[←Nat.add_assoc];exact hR3) ho (fun M4 W4 hR4 ho4=>hK M4 W4 ?_ ?_) (fun W2 hk=>hKf W2 hk)
   ·rw[hp,List.getElem?_append_right (by simp),List.getElem?_append_right (by simp)];simp
   ·rw[hp];simp only[List.length_append,List.length_cons,List.length_nil];have e:k+(0+1+((lT o o.kids.length).length+(0+1)))=k+(1+(lT o o.kids.length).length)+1:=by omega
    rw[e];exact hR4
   ·exact ho4.tail.tail
 rw[oG,ob_k ho 1 rfl];simp only[rs];by_cases k6:o.k=6
 ·simp only[k6,decide_true,i_t];refine hJ _ _ fun _=>main [91] [93] w4 ho (.inl k6) ?_;rw[Wr.parts_eq,if_neg (by omega),if_pos k6,lT,if_neg (by omega),List.take_length];rfl
 by_cases k7:o.k=7
 ·simp only[k7,Int.reduceEq,decide_true,decide_false,i_t,i_f];rw[mb (x:=[60,60]) (y:=[62,62])];refine Bq 0 ho rfl (new:=[.string ⟨([60,60]:List UInt8).toArray⟩,.string ⟨([62,62]:List UInt8).toArray⟩]) sz2 (by simp;exact⟨rfl,rfl⟩) rfl fun w5 ho=>?_;refine hJ _ _ fun _=>main [60,60] [62,62] w5 ho (.inr k7) ?_;rw[Wr.parts_eq,if_neg (by omega),if_neg (by omega),if_pos k7,lT,if_pos k7,Wr.Dd _ _ _ (.inr (Nat.le_refl _))];rfl
 simp only[k6,k7,decide_false,i_f];rw[ob_v ho 1 rfl];refine dV (Ng o _ d w4 (hI _ _ ho).1 (OV.mono (hA _ _ ho) _ _ (ha.kept (hI _ _ ho).2).ov) hc k6 k7 k9) ?_;intro v5 w5 hnew;have ho:=ho.join hnew;have ho:OwnS S w0 w5 ([gD v5 (Wr.parts o),endE b5 [91] [93],obE b3 o vk vc]++(pQ L0 lb df++(M++X))):=ho;have hpos:0 < (Wr.parts o).length:=by rw[Wr.parts_eq,if_neg k6,if_neg k7];split<;>simp
 have hpl:=Wr.B9 o;obtain⟨g,off,cap,rfl,_⟩:=gA (ho.Dh 0 rfl) hpos;rw[show DoX prog (mB .len #[39] 3 #[false] #[.slice (some ⟨g,off,none⟩) (Wr.parts o).length cap]) w5=DoX prog (mB .len #[39] 3 #[false] #[.slice (some ⟨g,off,none⟩) (Wr.parts o).length cap]) w5 from rfl,bF Tryz.underlying39 (ho.Dh 0 rfl)];refine loop (fun vs' w'=>∃(i:Nat) (M':List Ent),vs'=[.int .i64 i]∧i≤(Wr.parts o).length∧R (k+i) M'∧OwnS S w0 w' ([gD (.slice (some ⟨g,off,none⟩) (Wr.parts o).length cap) (Wr.parts o),endE b5 [91] [93],obE b3 o vk vc]++(pQ L0 lb df++(M'++X))))
  (fun vs' _=>(Wr.parts o).length - n0 vs') ⟨0,M,rfl,by omega,hR,ho⟩ ?_
 rintro vs' w6 ⟨i,M3,rfl,hi,hR3,ho⟩ _;simp only[oU,gd,rs];by_cases hlt:(i:Int) < ((Wr.parts o).length:Int)
 ·have hi':i < (Wr.parts o).length:=by omega
  simp only[hlt,decide_true,i_t];obtain⟨g',off',cap',he,hcl⟩:=gA (ho.Dh 0 rfl) hpos;cases he;refine aT (nM Tryz.underlying39 (show _=some 1 by kernel_rfl) (by omega) (by omega)) |>.mpr ?_;have hq:=hcl i _ (eB hi');rw[Int.toNat_natCast,Nat.mul_one,aW mZ hq,c1 ho];refine give [gD (.slice (some ⟨g,off,none⟩) (Wr.parts o).length cap) (Wr.parts o),endE b5 [91] [93],obE b3 o vk vc] M3 i (Wr.parts o)[i] w6 _ _ (List.getElem?_eq_getElem hi') hR3 ho (fun M4 W4 hR4 ho4=>?_) (fun W hk=>?_)
  ·rw[CU,Bool.not_true,i_f,aC (by omega) (by omega)];exact bG ⟨i+1,M4,rfl,by omega,hR4,ho4⟩ (by simp[n0,RowKit.intOf];omega)
  ·rw[CU,Bool.not_false,i_t];exact hKf W hk
 ·simp only[hlt,decide_false,i_f];have hie:i=(Wr.parts o).length:=by omega
  subst hie;exact hK M3 w6 hR3 ho.tail.tail.tail
end
section
open Eng Go.RowKit
def Obw (wb:World)(W:World):Prop:=Tb W∧Kept (InW wb) wb W∧wb.heap.size≤W.heap.size
theorem OA (wb:World)(o:Ob)(vk vc:Value)(cs:List Value)(b:Nat)(ha:ObAt (InW wb) wb o vk vc cs)(hb:o.wt≤100000000)(hc:Vl.check 1 o=0)(k9:o.k≠9) :
  Seq prog (Obw wb) 132 #[] #[.pointer (some ⟨b,0,none⟩)] [obE b o vk vc] (bR (Wr.parts o)):=by
 intro S w0 w1 L0 lb df M0 R K hI ho hR hy hend;show Calls prog 132 #[.func (.yield lb) #[] #[],.pointer (some ⟨b,0,none⟩)] w1 K;refine BU ?_;unfold oY;refine dD (fun b=>.pointer (some ⟨b,0,none⟩)) [.func (.yield lb) #[] #[]] 30 (fun _=>by kernel_rfl) ho fun b1 w2 ho=>?_;refine dD (fun b=>.pointer (some ⟨b,0,none⟩)) [.nilFunc] 62 (fun _=>by kernel_rfl) ho fun b2 w3 ho=>?_;rw[Hm];refine bI 0 ho rfl (by kernel_rfl) rfl (by simp) fun w4 ho=>?_;have ho:OwnS S w0 w4 ([telE b1 b2,yldE b1 lb]++(pQ L0 lb df++(M0++[obE b o vk vc]))):=ho;rw[aW nFo (ho.cell 0 rfl 0 rfl),l_at ((show (Ent.cells b (obC o vk vc) 42).is w4 from ho.mem (by simp[obE])) |> fun h=>AtV.agg eU rfl fun j v hj=>by simpa using aU h hj)];refine PR G9 ?_;refine D3 (QV (InW wb) wb S w0 L0 lb df b1 b2 R (bR (Wr.parts o)) (fun W=>K (.returned (.tuple #[])) W) (fun L W h=>⟨(hI L W h).1,(hI L W h).2.1⟩) (fun L W h b hb=>Nat.lt_of_lt_of_le hb (hI L W h).2.2) hy o.wt o _ 1 M0 ([telE b1 b2,yldE b1 lb]++[obE b o vk vc]) 0 w4
  (fun e w'=>(e=.returned (.bool true)∧∃M',R (0+(Wr.parts o).length) M'∧OwnS S w0 w' (pQ L0 lb df++(M'++([telE b1 b2,yldE b1 lb]++[obE b o vk vc]))))∨(e=.returned (.bool false)∧K (.returned (.tuple #[])) w'))
  (Nat.le_refl _) ha.ov hb hc (by omega) k9 (by simp) (by simp) (Jb ho) hR ?_ (fun M' W' h1 h2=>.inl ⟨rfl,M',h1,h2⟩) (fun W' h=>.inr ⟨rfl,h⟩)) ?_
 ·intro j x hx;rw[Nat.zero_add];unfold bR;rw[List.getElem?_map,hx];rfl
 ·rintro e w8 (⟨rfl,M5,hR5,ho5⟩|⟨rfl,hk⟩)
  ·simp only[Cont];refine hend M5 _ w8 ?_ ho5;rw[mS,←Nat.zero_add (Wr.parts o).length];exact hR5
  ·exact hk
def slc7 (b:Nat)(v:Value):Ent:=.cells b [v] 39
theorem Kw {I:World→Prop}{f:Nat}{fa ca:Array Value}{F:List Ent}{ns:List (List UInt8)}(hseq:Seq prog I f fa ca F (bR ns))(hp:dQ prog f=true)(hl:ns.length≤100000000000)
  {S:Nat→Prop} {w0 w:World} {L:List Ent} (hI:∀(L:List Ent) (W:World),OwnS S w0 W L→I W) (ho:OwnS S w0 w (F++L)) :
  Ret prog 96 #[.func (.func f) fa ca] w (fun v w'=>OwnS S w0 w' (gD v ns::L)):=by
 refine aO fun K hK=>pN ?_;unfold dY;refine D3 (gL (K:=RetK fun v w'=>OwnS S w0 w' (gD v ns::L)) ?_) (fun e w' ⟨v,he,hv⟩=>by subst he;exact hK _ _ hv);unfold cD;have ho:=ho.Az 9 1;refine dD (fun b=>.pointer (some ⟨b,0,none⟩)) [.slice none 0 0] 39 (fun _=>by kernel_rfl) ho fun b2 w1 ho=>?_;refine range ho hp fun L0 df lb w2 ho hy=>?_;refine hseq S w0 w2 L0 lb df (slc7 b2 (.slice none 0 0)::gD (.slice none 0 0) []::L) (fun k M=>∃v,M=slc7 b2 v::gD v (ns.take k)::L) _ hI ?_ ⟨.slice none 0 0,by rw[List.take_zero]⟩ ?_ ?_
 ·refine ho.perm ?_;show List.Perm (_::_::_::_::(F++L)) (_::_::_::_::(L++F));exact (List.Perm.cons _ (List.Perm.cons _ (List.Perm.cons _ (List.Perm.cons _ List.perm_append_comm))))
 ·rintro k v M X W hk ⟨u,rfl⟩ ho;obtain⟨x,hx,rfl⟩:=QP hk;have hkl:k < ns.length:=(List.getElem?_eq_some_iff.1 hx).1;have ho:OwnS S w0 W (.obj lb (lp L0 .ready none)::.obj df (.deferred (some []))::slc7 b2 u::gD u (ns.take k)::(L++X)):=ho;refine hy _ W _ (ho.at_ 0 rfl) rfl ?_;refine Vs 0 ho rfl fun W3 ho=>?_;rw[aW Js (ho.cell 2 rfl 0 rfl)];refine To 3 ho rfl (by rw[List.length_take];omega) fun v' W4 ho=>?_;refine bI 2 ho rfl (by kernel_rfl) (TQ (ho.Dh 3 rfl)) (by simp) fun W5 ho=>?_;refine Wb 0 ho rfl fun W6 ho=>?_;refine .inl ⟨rfl,slc7 b2 v'::gD v' (ns.take (k+1))::L,⟨v',rfl⟩,?_⟩;have e:ns.take (k+1)=ns.take k++[x]:=by
   rw[List.take_succ_eq_append_getElem hkl,(List.getElem?_eq_some_iff.1 hx).2]
  rw[e];exact ho
 ·rintro M X W ⟨u,rfl⟩ ho;rw[mS,List.take_length] at ho;refine⟨_,.ready,none,_,rfl,(by intro h;cases h),ho.at_ 0 rfl,List.mem_cons.2 (.inl rfl),?_⟩;have hp':OwnS S w0 (putO W lb (lp L0 .exhausted none)) (.obj lb (lp L0 .exhausted none)::.obj df (.deferred (some []))::slc7 b2 u::gD u ns::(L++X)):=zN (o':=lp L0 .exhausted none) ho 0 rfl;have hp':OwnS S w0 (putO W lb (lp L0 .exhausted none)) (.obj df (.deferred (some []))::slc7 b2 u::gD u ns::(L++X)):=hp'.tail;rw[aW Js (hp'.cell 1 rfl 0 rfl)];refine U5 0 hp' rfl fun W4 ho=>?_;show RetK (fun v w'=>OwnS S w0 w' (gD v ns::L)) (.returned u) W4;refine retK ?_;exact ho.tail.tail.sub (.cons_cons _ (List.sublist_append_left _ _))
def txtV (x:List UInt8×Int):Value:=.tuple #[.string ⟨x.1.toArray⟩,.int .i64 x.2]
theorem Lg:dQ prog 132=true:=by kernel_rfl
theorem Wg {xo yo:Operand}{a b:Int}{w:World}{PK:PKT}{K:VWP}:DoX prog (mEq .neq 24 xo yo (.int .i64 a) (.int .i64 b)) w PK K=K (.bool (decide (a≠b))) w:=Tj
theorem Hc (o:Ob)(v:Value)(w:World)(ht:Tb w)(hov:OV (InW w) w v o)(hb:o.wt≤100000000):Ret prog 56 #[v] w (fun v w'=>v=txtV (Wr.text o)∧Below w.heap.size w w'):=by
 obtain⟨vk,vc,cs,rfl,ha⟩:=hov.open;refine aO fun K hK=>Gm ?_;unfold zM;refine rR o ha.keys.one ha.kids.one (Own.start w) fun b w1 ho=>?_;rw[ob_v ho 0 rfl];refine dE (Ho o _ w1 (ha.in_ ho).ov (by omega)) rfl ho fun w2 ho=>?_;rw[Wg];by_cases hc:Vl.check 1 o=0
 case neg=>
  simp only[ne_eq,hc,not_false_eq_true,decide_true,i_t];refine hK _ _ ⟨?_,ho.done⟩;simp[Wr.text,hc,txtV]
 simp only[hc,ne_eq,not_true,decide_false,i_f];rw[oG,ob_k ho 0 rfl];simp only[rs];by_cases k9:o.k=9
 ·simp only[k9,decide_true,i_t];refine hK _ _ ⟨?_,ho.done⟩;simp[Wr.text,hc,k9,txtV]
 simp only[k9,decide_false,i_f];rw[ob_v ho 0 rfl];have ha2:=ha.own ho;refine D3 (D8 (K:=RetK fun v w'=>∃b,v=.func (.func 132) #[] #[.pointer (some ⟨b,0,none⟩)]∧Own w w' [obE b o vk vc]) ?_) ?_
 ·unfold sN;refine rR o ha.keys.one ha.kids.one ho fun b' w3 ho=>?_;rw[Hm];exact⟨_,rfl,b',rfl,ho.sub (.cons_cons _ (List.nil_sublist _))⟩
 ·rintro e w3 ⟨_,rfl,b',rfl,ho⟩;have hpl:=Wr.B9 o;have hpt:=Wr.oR o;refine dV (Kw (S:=NoB) (w0:=w) (L:=[]) (OA w o vk vc cs b' ha hb hc k9) Lg (by omega) (fun L W h=>⟨ht.own h,OwnS.keptIn h,h.size⟩) (by simpa using ho)) ?_;intro v4 w4 ho;refine dE (Ku (Wr.parts o) v4 w4 (ho.Dh 0 rfl) (by omega)) rfl ho fun w5 ho=>?_;refine hK _ _ ⟨?_,ho.done⟩;simp[Wr.text,hc,k9,txtV]
end
end Go.Proofs.YtoofficgclghoaaGreatDoor

namespace Go.Proofs.YtoofficgclghoaaGreatDoor
section
open Eng Go.RowKit
abbrev nilS:Value:=.slice none 0 0
abbrev ob1 (k n g:Int)(s:List UInt8):Ob:=.mk k n g s [] []
theorem LZ {A:Nat→Prop}{w:World}(k n g:Int)(s:List UInt8):OV A w (obV (ob1 k n g s) nilS nilS) (ob1 k n g s):=ObAt.ov (cs:=[]) ⟨SlA.nil _ _ _ _,SlA.nil _ _ _ _,OVs.nil⟩
theorem RB {A:Nat→Prop}{w:World}{o:Ob}{vk vc:Value}{rest:List Value}{os:List Ob}(h:OV A w (obV o vk vc) o)(hr:OVs A w rest os):OVs A w (obC o vk vc++rest) (o::os):=by
 rw[OVs];exact⟨obC o vk vc,rest,rfl,rfl,h,hr⟩
section
variable {w:World}{S:Nat→Prop}{w0:World}{L:List Ent}
theorem rY {K:Ending→World→Prop}{b:Nat}{o:Ob}{vk vc:Value}(ho:OwnS S w0 w (obE b o vk vc::L))(k:K (.returned (obV o vk vc)) w):RetX prog [.cell (.pointer (some ⟨b,0,none⟩)) 42] w K:=iW (bC (ho.agg 0 rfl eU)) k
end
def obR (o:Ob)(vk vc:Value)(w:World):VWP:=fun v w'=>v=obV o vk vc∧Below w.heap.size w w'
theorem NP (n:Int)(w:World):Ret prog 75 #[.int .i64 n] w (obR (ob1 2 n 0 []) nilS nilS w):=by
 refine aO fun K hK=>yR ?_;unfold jJ;refine bU (Own.start w) fun b w1 ho=>?_;have hb:∀{PK:PKT} {K:VWP},DoX prog (aG 42 #[(0,(.int .i64 2)),(1,.int .i64 n)]) w1 PK K=K (obV (ob1 2 n 0 []) nilS nilS) w1:=aT (by kernel_rfl);rw[hb];refine bA 0 rfl rfl ho rfl fun w2 ho=>?_;exact rY ho (hK _ _ ⟨rfl,ho.done⟩)
theorem KC (n:Int)(w:World):Ret prog 76 #[.int .i64 n] w (obR (ob1 3 n 0 []) nilS nilS w):=by
 refine aO fun K hK=>wI ?_;unfold iF;refine bU (Own.start w) fun b w1 ho=>?_;have hb:∀{PK:PKT} {K:VWP},DoX prog (aG 42 #[(0,(.int .i64 3)),(1,.int .i64 n)]) w1 PK K=K (obV (ob1 3 n 0 []) nilS nilS) w1:=aT (by kernel_rfl);rw[hb];refine bA 0 rfl rfl ho rfl fun w2 ho=>?_;exact rY ho (hK _ _ ⟨rfl,ho.done⟩)
theorem Nu (s:List UInt8)(w:World):Ret prog 77 #[.string ⟨s.toArray⟩] w (obR (ob1 4 0 0 s) nilS nilS w):=by
 refine aO fun K hK=>vK ?_;unfold iD;refine bU (Own.start w) fun b w1 ho=>?_;have hb:∀{PK:PKT} {K:VWP},DoX prog (aG 42 #[(0,(.int .i64 4)),(3,.string ⟨s.toArray⟩)]) w1 PK K=K (obV (ob1 4 0 0 s) nilS nilS) w1:=aT (by kernel_rfl);rw[hb];refine bA 0 rfl rfl ho rfl fun w2 ho=>?_;exact rY ho (hK _ _ ⟨rfl,ho.done⟩)
theorem NZ (s:List UInt8)(w:World):Ret prog 78 #[.string ⟨s.toArray⟩] w (obR (ob1 5 0 0 s) nilS nilS w):=by
 refine aO fun K hK=>xB ?_;unfold jD;refine bU (Own.start w) fun b w1 ho=>?_;have hb:∀{PK:PKT} {K:VWP},DoX prog (aG 42 #[(0,(.int .i64 5)),(3,.string ⟨s.toArray⟩)]) w1 PK K=K (obV (ob1 5 0 0 s) nilS nilS) w1:=aT (by kernel_rfl);rw[hb];refine bA 0 rfl rfl ho rfl fun w2 ho=>?_;exact rY ho (hK _ _ ⟨rfl,ho.done⟩)
theorem Nw (n g:Int)(w:World):Ret prog 74 #[.int .i64 n,.int .i64 g] w (obR (ob1 8 n g []) nilS nilS w):=by
 refine aO fun K hK=>yV ?_;unfold jB;refine bU (Own.start w) fun b w1 ho=>?_;have hb:∀{PK:PKT} {K:VWP},DoX prog (aG 42 #[(0,(.int .i64 8)),(1,.int .i64 n),(2,.int .i64 g)]) w1 PK K=K (obV (ob1 8 n g []) nilS nilS) w1:=aT (by kernel_rfl);rw[hb];refine bA 0 rfl rfl ho rfl fun w2 ho=>?_;exact rY ho (hK _ _ ⟨rfl,ho.done⟩)
end
end Go.Proofs.YtoofficgclghoaaGreatDoor




namespace Go.Proofs.YtoofficgclghoaaGreatDoor
section
open Go
namespace Vl
theorem FM (a b:List UInt8):less a b=true↔a < b:=by rw[less,bytesLess_eq,decide_eq_true_eq]
theorem nY {a b c:List UInt8}(h:less a b=true)(k:less b c=true):less a c=true:=by
 rw[FM] at *;exact List.lt_trans h k
theorem LO (a:List UInt8):less a a=false:=by
 cases h:less a a with
|false=>rfl
|true=>rw[FM] at h;exact absurd h (List.lt_irrefl _)
theorem Cx {a b:List UInt8}(h:less a b=false)(h':a≠b):less b a=true:=by
 have h1:¬a < b:=by rw[←FM,h];simp
 rw[FM];rcases Classical.em (b < a) with h2|h2
 ·exact h2
 ·exact absurd (List.le_antisymm (List.not_lt.1 h2) (List.not_lt.1 h1)) h'
theorem Hr {a b:List UInt8}(h:less a b=true):less b a=false:=by
 cases h':less b a with
|false=>rfl
|true=>have:=nY h h';rw[LO] at this;cases this
def Rise (l:List (List UInt8)):Prop:=l.Pairwise fun a b=>less a b=true
def place (l:List (List UInt8))(x:List UInt8):Nat:=(l.takeWhile fun k=>less k x).length
def hit (l:List (List UInt8))(x:List UInt8):Bool:=decide (l[place l x]?=some x)
theorem DK {α:Type}{p:α→Bool}:∀(l:List α) (i:Nat),i≤l.length→(∀m (h:m < l.length),m < i→p l[m]=true)→(∀h:i < l.length,p l[i]=false)→(l.takeWhile p).length=i
|[],i,hi,_,_=>by simp at hi;simp[hi]
|a::l,0,_,_,h=>by
  have:=h (by simp);rw[List.getElem_cons_zero] at this;simp[List.takeWhile_cons,this]
|a::l,i+1,hi,h1,h2=>by
  have h0:=h1 0 (by simp) (by omega);rw[List.getElem_cons_zero] at h0;rw[List.takeWhile_cons,h0];simp only[if_true,List.length_cons];rw[DK l i (by simpa using hi) (fun m hm hmi=>by
   have:=h1 (m+1) (by simpa using hm) (by omega)
   rwa [List.getElem_cons_succ] at this) (fun h=>by
   have:=h2 (by simpa using h)
   rwa [List.getElem_cons_succ] at this)]
theorem Ip (l:List (List UInt8))(x:List UInt8):place l x≤l.length:=(List.takeWhile_prefix _).length_le
theorem MM {l:List (List UInt8)}{x:List UInt8}{i:Nat}(hi:i≤l.length)(h1:∀m (h:m < l.length),m < i→less l[m] x=true)(h2:∀h:i < l.length,less l[i] x=false):place l x=i:=DK l i hi h1 h2
theorem QC {l:List (List UInt8)}{x:List UInt8}{m:Nat}(h:m < place l x):less (l[m]'(Nat.lt_of_lt_of_le h (Ip l x))) x=true:=by
 unfold place at h;have hm:=List.all_takeWhile (l:=l) (p:=fun k=>less k x);have h1:(l.takeWhile fun k=>less k x)[m]∈l.takeWhile fun k=>less k x:=List.getElem_mem h;have h2:=List.all_eq_true.1 hm _ h1;have h3:(l.takeWhile fun k=>less k x)[m]=l[m]'(Nat.lt_of_lt_of_le h (Ip l x)):=by
  have hp:(l.takeWhile fun k=>less k x) <+: l:=List.takeWhile_prefix _;exact hp.getElem h
 rw[h3] at h2;exact h2
theorem Rl {l:List (List UInt8)}{x:List UInt8}(h:place l x < l.length):less l[place l x] x=false:=by
 unfold place at h ⊢
 induction l with
|nil=>simp at h
|cons a l ih=>
  cases ha:less a x with
 |false=>simp only[List.takeWhile_cons,ha];simpa using ha
 |true=>
   simp only[List.takeWhile_cons,ha,if_true,List.length_cons] at h ⊢;rw[List.getElem_cons_succ];exact ih (by simpa using h)
theorem BH {l:List (List UInt8)}(h:Rise l){i j:Nat}(hij:i < j)(hj:j < l.length):less (l[i]'(by omega)) l[j]=true:=List.pairwise_iff_getElem.1 h i j (by omega) hj hij
def ob0:Ob:=.mk 0 0 0 [] [] []
def put (o:Ob)(key:List UInt8)(v:Ob):Ob:=
 .mk o.k o.n o.g o.s (o.keys.take (place o.keys key)++key::o.keys.drop (place o.keys key+if hit o.keys key then 1 else 0)) (o.kids.take (place o.keys key)++v::o.kids.drop (place o.keys key+if hit o.keys key then 1 else 0))
end Vl
end
section
open Go
namespace Vl
theorem JV (l:List (List UInt8))(i:Nat):Pl.tot (l.take i)+Pl.tot (l.drop i)=Pl.tot l:=by
 rw[←Pl.cI,List.take_append_drop]
theorem yB:∀a b:List Ob,Ob.wts (a++b)=Ob.wts a+Ob.wts b
|[],b=>by rw[List.nil_append,Ob.wts];omega
|o::a,b=>by rw[List.cons_append,Ob.wts,Ob.wts,yB a b];omega
theorem JY (l:List Ob)(i:Nat):Ob.wts (l.take i)+Ob.wts (l.drop i)=Ob.wts l:=by
 rw[←yB,List.take_append_drop]
theorem Sw (l:List (List UInt8))(i j:Nat)(h:i≤j):Pl.tot (l.drop j)≤Pl.tot (l.drop i):=by
 have:=JV (l.drop i) (j - i);rw[List.drop_drop,show i+(j - i)=j by omega] at this;omega
theorem Q9 (l:List Ob)(i j:Nat)(h:i≤j):Ob.wts (l.drop j)≤Ob.wts (l.drop i):=by
 have:=JY (l.drop i) (j - i);rw[List.drop_drop,show i+(j - i)=j by omega] at this;omega
theorem LU (o:Ob):o.wt=6+o.s.length+Pl.tot o.keys+Ob.wts o.kids:=by cases o;rw[Ob.wt];rfl
theorem U4 (o:Ob)(key:List UInt8)(v:Ob):(put o key v).wt≤o.wt+(key.length+1)+v.wt:=by
 rw[LU (put o key v),LU o];rw[show (put o key v).s=o.s from rfl,show (put o key v).keys=o.keys.take (place o.keys key)++key::o.keys.drop (place o.keys key+if hit o.keys key then 1 else 0) from rfl,
  show (put o key v).kids=o.kids.take (place o.keys key)++v::o.kids.drop (place o.keys key+if hit o.keys key then 1 else 0) from rfl]
 rw[Pl.cI,yB];have h1:=JV o.keys (place o.keys key);have h2:=Sw o.keys (place o.keys key) (place o.keys key+if hit o.keys key then 1 else 0) (by omega);have h3:=JY o.kids (place o.keys key);have h4:=Q9 o.kids (place o.keys key) (place o.keys key+if hit o.keys key then 1 else 0) (by omega);have h5:∀l,Pl.tot (key::l)=key.length+1+Pl.tot l:=fun l=>by simp[Pl.tot]
 rw[h5,Ob.wts];omega
end Vl
end
section
open Go
namespace Vl
theorem HZ {o:Ob}{key:List UInt8}{v:Ob}(h:Rise o.keys)(hl:o.keys.length=o.kids.length):Rise (put o key v).keys∧(put o key v).keys.length=(put o key v).kids.length:=by
 have hp:=Ip o.keys key;refine⟨?_,?_⟩
 ·show Rise (o.keys.take (place o.keys key)++key::o.keys.drop (place o.keys key+if hit o.keys key then 1 else 0));have hlo:∀x∈o.keys.take (place o.keys key),less x key=true:=by
   intro x hx;obtain⟨m,hm,rfl⟩:=List.getElem_of_mem hx;rw[List.length_take] at hm;rw[List.getElem_take];exact QC (by omega)
  have hhi:∀x∈o.keys.drop (place o.keys key+if hit o.keys key then 1 else 0),less key x=true:=by
   intro x hx;cases hh:hit o.keys key with
  |true=>
    rw[hh] at hx;obtain⟨m,hm,rfl⟩:=List.getElem_of_mem hx;simp only[if_true,List.length_drop] at hm;have hi:o.keys[place o.keys key]?=some key:=of_decide_eq_true hh;have hg:o.keys[place o.keys key]=key:=(List.getElem?_eq_some_iff.1 hi).2;have:=BH h (i:=place o.keys key) (j:=place o.keys key+1+m) (by omega) (by omega);rw[hg] at this;simpa using this
  |false=>
    rw[hh] at hx;obtain⟨m,hm,rfl⟩:=List.getElem_of_mem hx;simp only[Bool.false_eq_true,if_false,List.length_drop] at hm;have hlt:place o.keys key < o.keys.length:=by omega
    have hge:=Rl hlt;have hne:o.keys[place o.keys key]≠key:=by
     intro e;unfold hit at hh;rw[List.getElem?_eq_getElem hlt,e] at hh;simp at hh
    have hk:=Cx hge hne;rcases Nat.eq_zero_or_pos m with h0|h0
    ·subst h0;simpa using hk
    ·have:=BH h (i:=place o.keys key) (j:=place o.keys key+m) (by omega) (by omega);simpa using nY hk this
  refine List.pairwise_append.2 ⟨h.sublist (List.take_sublist _ _),List.pairwise_cons.2 ⟨hhi,h.sublist (List.drop_sublist _ _)⟩,fun a ha b hb=>?_⟩;rcases List.mem_cons.1 hb with rfl|hb
  ·exact hlo a ha
  ·exact nY (hlo a ha) (hhi b hb)
 ·show (o.keys.take (place o.keys key)++key::o.keys.drop (place o.keys key+if hit o.keys key then 1 else 0)).length=(o.kids.take (place o.keys key)++v::o.kids.drop (place o.keys key+if hit o.keys key then 1 else 0)).length;simp only[List.length_append,List.length_take,List.length_cons,List.length_drop];omega
end Vl
end
section
open Go
namespace Ps
open Lx (next Tok)
abbrev R:=Ob×Int×Int
def bad (e:Int):R:=(Vl.ob0,0,e)
def tru:List UInt8:=[116,114,117,101]
def fal:List UInt8:=[102,97,108,115,101]
def nul:List UInt8:=[110,117,108,108]
def bB (t:Tok):Bool:=
 if t.k=6 then decide (t.s=[91])||decide (t.s=[60,60]) else !decide (t.k=0)&&(!decide (t.k=5)||decide (t.s=tru)||decide (t.s=fal)||decide (t.s=nul))
def ref (s:List UInt8)(t:Tok):Option (Int×Int):=
 if t.n < 1∨8191 < t.n then none
 else if (next s t.t).2≠0∨(next s t.t).1.k≠1∨(next s t.t).1.n < 0∨65535 < (next s t.t).1.n then none
 else if (next s (next s t.t).1.t).2=0∧(next s (next s t.t).1.t).1.k=5∧(next s (next s t.t).1.t).1.s=[82] then some ((next s t.t).1.n,(next s (next s t.t).1.t).1.t)
 else none
def leaf (s:List UInt8)(t:Tok):R:=
 if t.k=1 then match ref s t with
 |some p=>(.mk 8 t.n p.1 [] [] [],p.2,0)
 |none=>(.mk 2 t.n 0 [] [] [],t.t,0)
 else if t.k=2 then (.mk 3 t.n 0 [] [] [],t.t,0)
 else if t.k=3 then (.mk 4 0 0 t.s [] [],t.t,0)
 else if t.k=4 then (.mk 5 0 0 t.s [] [],t.t,0)
 else if t.s=nul then (Vl.ob0,t.t,0)
 else (.mk 1 (if t.s=tru then 1 else 0) 0 [] [] [],t.t,0)
def arr (s:List UInt8)(ok:Bool)(sub:Int→R):Nat→Int→List Ob→R
|0,_,_=>bad 99
|m+1,at_,acc=>
  if (next s at_).2=0∧(next s at_).1.k=6∧(next s at_).1.s=[93] then (.mk 6 0 0 [] [] acc,(next s at_).1.t,0)
  else if (next s at_).2=0∧acc.length=8191∧bB (next s at_).1=true∧ok=true then bad 6
  else if (next s at_).2≠0 then bad (next s at_).2
  else if (sub at_).2.2≠0 then bad (sub at_).2.2
  else arr s ok sub m (sub at_).2.1 (acc++[(sub at_).1])
def join (o:Ob)(k:List UInt8)(v:Ob):Ob:=if v.k≠0 then Vl.put o k v else o
def dict (s:List UInt8)(sub:Int→R):Nat→Int→Ob→List (List UInt8)→R
|0,_,_,_=>bad 99
|m+1,at_,o,met=>
  if (next s at_).2≠0 then bad (next s at_).2
  else if (next s at_).1.k=6∧(next s at_).1.s=[62,62] then (o,(next s at_).1.t,0)
  else if (next s at_).1.k=0 then bad 4
  else if (next s at_).1.k≠4 then bad 3
  else if (next s at_).1.s∈met then bad 9
  else if met.length=8191 then bad 6
  else if (sub (next s at_).1.t).2.2≠0 then bad (sub (next s at_).1.t).2.2
  else dict s sub m (sub (next s at_).1.t).2.1 (join o (next s at_).1.s (sub (next s at_).1.t).1) (met++[(next s at_).1.s])
def aZ:Ob:=.mk 7 0 0 [] [] []
def obj (s:List UInt8):Nat→Int→R
|n,at_=>
  if (next s at_).2≠0 then bad (next s at_).2
  else if (next s at_).1.k=0 then bad 4
  else if bB (next s at_).1=false then bad 3
  else match n with
  |0=>bad 7
  |n+1=>
    if (next s at_).1.k≠6 then leaf s (next s at_).1
    else if (next s at_).1.s=[91] then arr s (decide (n≠0)) (obj s n) (s.length+1) (next s at_).1.t []
    else dict s (obj s n) (s.length+1) (next s at_).1.t aZ []
def object (s:List UInt8)(at_:Int):R:=if at_ < 0∨(s.length:Int) < at_ then bad 1 else obj s 24 at_
theorem OI {s:List UInt8}{t:Tok}{p:Int×Int}(h:ref s t=some p):t.t < p.2∧p.2≤s.length∧1≤t.n∧t.n≤8191∧0≤p.1∧p.1≤65535:=by
 unfold ref at h;split at h
 ·cases h
 rename_i h0
 split at h
 ·cases h
 rename_i h1
 split at h
 ·rename_i h2
  simp only[not_or,Classical.not_not] at h1;cases h;have b1:=Lx.bV h1.1 (by rw[h1.2.1];decide);have b2:=Lx.bV h2.1 (by rw[h2.2.1];decide);have:=Lx.cO s t.t.toNat;have:=Lx.cO s (next s t.t).1.t.toNat;simp only;omega
 ·cases h
theorem O8 {s:List UInt8}{at_:Int}(h0:(next s at_).2=0)(hk:(next s at_).1.k≠0):(leaf s (next s at_).1).2.2=0∧at_ < (leaf s (next s at_).1).2.1∧(leaf s (next s at_).1).2.1≤s.length:=by
 have b:=Lx.bV h0 hk;have:=Lx.cO s at_.toNat;unfold leaf;split
 ·cases hr:ref s (next s at_).1 with
 |some p=>
   have:=OI hr;exact⟨rfl,by show at_ < p.2;omega,by show p.2≤_;omega⟩
 |none=>exact⟨rfl,by show at_ < (next s at_).1.t;omega,b.2.2.2.2⟩
 all_goals (repeat' split)<;>exact⟨rfl,by show at_ < (next s at_).1.t;omega,b.2.2.2.2⟩
def Good (s:List UInt8)(sub:Int→R):Prop:=∀a,(sub a).2.2=0→a < (sub a).2.1∧(sub a).2.1≤s.length
theorem SQ {s:List UInt8}{ok:Bool}{sub:Int→R}(hg:Good s sub):∀(m:Nat) (a:Int) (acc:List Ob),(arr s ok sub m a acc).2.2=0→a < (arr s ok sub m a acc).2.1∧(arr s ok sub m a acc).2.1≤s.length
|0,a,acc,h=>by simp[arr,bad] at h
|m+1,a,acc,h=>by
  rw[arr] at h ⊢;split at h
  ·rename_i h1
   rw[if_pos h1];have b:=Lx.bV h1.1 (by rw[h1.2.1];decide);have:=Lx.cO s a.toNat;exact⟨by show a < (next s a).1.t;omega,b.2.2.2.2⟩
  rename_i h1
  rw[if_neg h1];split at h
  ·simp[bad] at h
  rename_i h2
  rw[if_neg h2];split at h
  ·rename_i h3;exact absurd h h3
  rename_i h3
  rw[if_neg h3];split at h
  ·rename_i h4;exact absurd h h4
  rename_i h4
  rw[if_neg h4];have b:=hg a (Classical.not_not.1 h4);have c:=SQ hg m _ _ h;exact⟨by omega,c.2⟩
theorem OL {s:List UInt8}{sub:Int→R}(hg:Good s sub):∀(m:Nat) (a:Int) (o:Ob) (met:List (List UInt8)),(dict s sub m a o met).2.2=0→a < (dict s sub m a o met).2.1∧(dict s sub m a o met).2.1≤s.length
|0,a,o,met,h=>by simp[dict,bad] at h
|m+1,a,o,met,h=>by
  rw[dict] at h ⊢;split at h
  ·rename_i h1;exact absurd h h1
  rename_i h1
  rw[if_neg h1];have h1:=Classical.not_not.1 h1;split at h
  ·rename_i h2
   rw[if_pos h2];have b:=Lx.bV h1 (by rw[h2.1];decide);have:=Lx.cO s a.toNat;exact⟨by show a < (next s a).1.t;omega,b.2.2.2.2⟩
  rename_i h2
  rw[if_neg h2];split at h
  ·simp[bad] at h
  rename_i h3
  rw[if_neg h3];split at h
  ·simp[bad] at h
  rename_i h4
  rw[if_neg h4];split at h
  ·simp[bad] at h
  rename_i h5
  rw[if_neg h5];split at h
  ·simp[bad] at h
  rename_i h6
  rw[if_neg h6];split at h
  ·rename_i h7;exact absurd h h7
  rename_i h7
  rw[if_neg h7];have b:=Lx.bV h1 h3;have:=Lx.cO s a.toNat;have b2:=hg _ (Classical.not_not.1 h7);have c:=OL hg m _ _ _ h;exact⟨by omega,c.2⟩
theorem IV (s:List UInt8):∀n,Good s (obj s n):=by
 intro n
 induction n with
|zero=>
  intro a h;rw[obj] at h;split at h
  ·rename_i h1;exact absurd h h1
  split at h
  ·simp[bad] at h
  split at h
  ·simp[bad] at h
  ·simp[bad] at h
|succ n ih=>
  intro a h;rw[obj] at h ⊢;split at h
  ·rename_i h1;exact absurd h h1
  rename_i h1
  rw[if_neg h1];have h1:=Classical.not_not.1 h1;split at h
  ·simp[bad] at h
  rename_i h2
  rw[if_neg h2];split at h
  ·simp[bad] at h
  rename_i h3
  rw[if_neg h3];have b:=Lx.bV h1 h2;have:=Lx.cO s a.toNat
  try simp only at h ⊢
  split at h
  ·rename_i h4
   rw[if_pos h4];exact (O8 h1 h2).2
  rename_i h4
  rw[if_neg h4];split at h
  ·rename_i h5
   rw[if_pos h5];have c:=SQ ih _ _ _ h;exact⟨by omega,c.2⟩
  ·rename_i h5
   rw[if_neg h5];have c:=OL ih _ _ _ _ h;exact⟨by omega,c.2⟩
theorem JS {s:List UInt8}{n:Nat}{a:Int}(h:(obj s n a).2.2=0):a < (obj s n a).2.1∧(obj s n a).2.1≤s.length:=IV s n a h
end Ps
end
section
namespace Eng
open Go.RowKit
structure Mem where
 A:Nat→Prop
 w:World
 lt:∀b,A b→b < w.heap.size
def Mem.has (M:Mem)(w:World):Prop:=∀b,M.A b→w.heap[b]?=M.w.heap[b]?
structure Mem.le (M N:Mem):Prop where
 A:∀b,M.A b→N.A b
 has:M.has N.w
def Mem.all (w:World):Mem:=⟨fun b=>b < w.heap.size,w,fun _ h=>h⟩
theorem Mem.FI (w:World):(Mem.all w).has w:=fun _ _=>rfl
theorem Mem.le_refl (M:Mem):M.le M:=⟨fun _ h=>h,fun _ _=>rfl⟩
theorem Mem.le_trans {M N O:Mem}(h:M.le N)(k:N.le O):M.le O:=⟨fun b hb=>k.A b (h.A b hb),fun b hb=>(k.has b (h.A b hb)).trans (h.has b hb)⟩
theorem Mem.UE {M N:Mem}{w:World}(h:M.le N)(k:N.has w):M.has w:=fun b hb=>(k b (h.A b hb)).trans (h.has b hb)
theorem Mem.bd {M:Mem}{w:World}(h:M.has w){b:Nat}(hb:M.A b):b < w.heap.size:=by
 have h1:=h b hb;rw[Array.getElem?_eq_getElem (M.lt b hb)] at h1;exact jE h1
theorem Mem.mU {M:Mem}{w w':World}(h:M.has w)(k:Below w.heap.size w w'):M.has w':=fun b hb=>(k.block b (Mem.bd h hb)).trans (h b hb)
def Ent.mem (M:Mem):Ent:=⟨M.A,M.has,fun h k b hb=>(k b hb).trans (h b hb),fun h k hk=>Mem.bd h hk⟩
structure Gives (M:Mem) (w w':World) (N:Mem):Prop where
 le:M.le N
 has:N.has w'
 new:∀b,N.A b→M.A b∨w.heap.size≤b
 below:Below w.heap.size w w'
def RetM (P:Program)(f:Nat)(args:Array Value)(M:Mem)(w:World)(R:Value→Mem→Prop):Prop:=Ret P f args w (fun v w'=>∃N,Gives M w w' N∧R v N)
section
variable {S:Nat→Prop}{P:Program}{w w0:World}{L:List Ent}{PK:PKT}{K:VWP}
theorem OwnS.memS {M:Mem}(h:M.has w):OwnS M.A w w [.mem M]:=OwnS.lend (e:=.mem M) h
theorem OwnS.hasM {M:Mem}(ho:OwnS S w0 w L)(i:Nat)(hi:L[i]?=some (.mem M)):M.has w:=ho.at_ i hi
theorem OwnS.VD {M N:Mem}{w':World}(ho:OwnS S w0 w L)(i:Nat)(hi:L[i]?=some (.mem M))(g:Gives M w w' N):OwnS S w0 w' (L.set i (.mem N)):=
 ho.turn i hi ⟨HI g.below,g.has,g.new⟩
theorem OwnS.Ba {M0 N:Mem}{w':World}(ho:OwnS M0.A w w' L)(i:Nat)(hi:L[i]?=some (.mem N))(hle:M0.le N)(h0:M0.has w):Gives M0 w w' N:=by
 have hm:=ho.all (.mem N) (List.mem_of_getElem? hi);refine⟨hle,hm.1,fun b hb=>hm.2 b hb,ho.grew.os,ho.grew.tape,ho.grew.output,ho.grew.size,fun k hk=>?_⟩;by_cases hA:M0.A k
 ·rw[h0 k hA];have h1:w'.heap[k]?=N.w.heap[k]?:=hm.1 k (hle.A k hA);rw[h1];exact hle.has k hA
 ·exact ho.grew.block k hk hA
theorem uL {f:Nat}{args:Array Value}{M:Mem}{R:Value→Mem→Prop}(hM:M.has w)
  (h:∀K:Ending→World→Prop,(∀(v:Value) (w':World) (N:Mem) (L:List Ent) (i:Nat),OwnS M.A w w' L→L[i]?=some (.mem N)→M.le N→R v N→K (.returned v) w')→Calls P f args w K):RetM P f args M w R:=
 aO fun K hK=>h K fun v w' N L i ho hi hle hr=>hK v w' ⟨N,ho.Ba i hi hle hM,hr⟩
theorem DP {f:Nat}{args:Array Value}{M:Mem}{R:Value→Mem→Prop}(ho:OwnS S w0 w L)(i:Nat)(hi:L[i]?=some (.mem M))(h:RetM P f args M w R)
  (k:∀v N w',M.le N→R v N→OwnS S w0 w' (L.set i (.mem N))→K v w'):CallX P f args w PK K:=
 dV h fun v w' ⟨N,g,r⟩=>k v N w' g.le r (ho.VD i hi g)
theorem OwnS.freeze {M:Mem}{e:Ent}(ho:OwnS S w0 w (e::L))(i:Nat)(hi:L[i]?=some (.mem M)) :
  ∃N:Mem,M.le N∧N.w=w∧(∀b,e.blk b→N.A b)∧OwnS S w0 w (L.set i (.mem N)):=by
 have he:=ho.all e (by simp);have hM:M.has w:=ho.at_ (i+1) (by simpa using hi);have hlt:∀b,M.A b∨e.blk b→b < w.heap.size:=fun b hb=>hb.elim (fun h=>Mem.bd hM h) (fun h=>e.lt he.1 b h)
 let N:Mem:=⟨fun b=>M.A b∨e.blk b,w,hlt⟩
 have hil:i < L.length:=(List.getElem?_eq_some_iff.1 hi).1;have hie:L[i]=.mem M:=(List.getElem?_eq_some_iff.1 hi).2;obtain⟨a1,a2⟩:=List.pairwise_cons.1 ho.apart;have hp:=List.pairwise_iff_getElem.1 a2;have bM:∀k,M.A k→(L[i]).blk k:=fun k hk=>by rw[hie];exact hk
 refine⟨N,⟨fun b hb=>.inl hb,hM⟩,rfl,fun b hb=>.inr hb,ho.grew,?_,?_⟩
 ·intro f hf;obtain⟨j,hj,rfl⟩:=List.getElem_of_mem hf;rw[List.length_set] at hj;rw[List.getElem_set];split
  ·refine⟨fun b _=>rfl,fun k hk=>?_⟩;rcases hk with hk|hk
   ·exact (ho.all (.mem M) (by rw[←hie];exact List.mem_cons_of_mem _ (List.getElem_mem hil))).2 k hk
   ·exact he.2 k hk
  ·exact ho.all _ (List.mem_cons_of_mem _ (List.getElem_mem hj))
 ·rw[List.pairwise_iff_getElem];intro a b ha hb hab k hk;rw[List.length_set] at ha hb;rw[List.getElem_set] at hk;rw[List.getElem_set];split at hk
  ·rename_i hia
   subst hia;rw[if_neg (by omega)];rcases hk with hk|hk
   ·exact hp i b ha hb hab k (bM k hk)
   ·exact a1 _ (List.getElem_mem hb) k hk
  ·split
   ·rename_i hib
    subst hib;intro hk';rcases hk' with hk'|hk'
    ·exact hp a i ha hb hab k hk (bM k hk')
    ·exact a1 _ (List.getElem_mem ha) k hk' hk
   ·exact hp a b ha hb hab k hk
end
end Eng
open Eng Go.RowKit
theorem SlA.le {M N:Mem}(h:M.le N){v:Value}{sz n:Nat}{cs:List Value}(hs:SlA M.A M.w v sz n cs):SlA N.A N.w v sz n cs:=by
 have:=hs.kept (w':=N.w) h.has;exact⟨this.1,(fun p l c e hn=>h.A _ (this.2.1 p l c e hn)),this.2.2⟩
theorem SlA.now {M:Mem}{w:World}(h:M.has w){v:Value}{sz n:Nat}{cs:List Value}(hs:SlA M.A M.w v sz n cs):Sl w v sz n cs:=(hs.kept (w':=w) h).1
theorem OV.le {M N:Mem}(h:M.le N){v:Value}{o:Ob}(hv:OV M.A M.w v o):OV N.A N.w v o:=OV.mono h.A o v (OV.kept h.has o v hv)
theorem OVs.le {M N:Mem}(h:M.le N){cs:List Value}{os:List Ob}(hv:OVs M.A M.w cs os):OVs N.A N.w cs os:=OVs.mono h.A os cs (OVs.kept h.has os cs hv)
theorem OV.inw {M:Mem}{w:World}(h:M.has w){v:Value}{o:Ob}(hv:OV M.A M.w v o):OV (InW w) w v o:=OV.mono (fun b hb=>Mem.bd h hb) o v (OV.kept h o v hv)
end
section
namespace Eng
open Go.RowKit
section
variable {S:Nat→Prop}{P:Program}{w w0:World}{L:List Ent}{PK:PKT}{K:VWP}
theorem N9 {T U E:TypeId}{cb:Array Bool}{a:Option Addr}{n cap:Nat}(h:P.underlying T=some (.slice E)):(mB .len #[T] U cb #[.slice a n cap]).run P w=.ok (.value (.int .i64 (n:Int))) w:=by
 simp[mB,builtin,Builtin.len_,run_underlying h,goInt]
theorem SC {M N:Mem}{T:TypeId}{sz:Nat}{v:Value}{n:Nat}{xs:List Value}(hw:N.w=w)(hb:∀b,(Ent.urow T sz v n xs).blk b→N.A b)(h:(Ent.urow T sz v n xs).is w):SlA N.A N.w v sz n xs:=by
 rw[hw];refine⟨Sl.urow h,fun p l c e hn=>hb _ ?_,fun a l c e=>?_⟩
 ·rcases (show w.ownsRow 0 T sz v n xs from h).2 with ⟨rfl,h0⟩|⟨g,cap,cur,rfl,_⟩
  ·cases e
  ·injection e with e1 _ _
   injection e1 with e1
   rw[←e1];rfl
 ·rcases (show w.ownsRow 0 T sz v n xs from h).2 with ⟨rfl,h0⟩|⟨g,cap,cur,rfl,_,_,hnc,_⟩
  ·injection e with _ e2 e3;omega
  ·injection e with _ e2 e3;omega
theorem OwnS.eT {M:Mem}{T:TypeId}{sz:Nat}{v:Value}{n:Nat}{xs:List Value}(ho:OwnS S w0 w (.urow T sz v n xs::L))(i:Nat)(hi:L[i]?=some (.mem M)) :
  ∃N:Mem,M.le N∧SlA N.A N.w v sz n xs∧OwnS S w0 w (L.set i (.mem N)):=by
 have h:=ho.at_ 0 rfl;obtain⟨N,h1,h2,h3,h4⟩:=ho.freeze i hi;exact⟨N,h1,SC (M:=M) h2 h3 h,h4⟩
end
end Eng
end
section
open Eng
def cG (t0 t1:Value)(w:World)(K:Ending→World→Prop):Prop:=
 CallX prog 58 #[t0,t1] w (pk K) fun t7 w=>
 DoX prog (mBin .geq 3 t7 (.int .i64 0)) w (pk K) fun t8 w=>
 K (.returned t8) w
theorem iX (t0 t1:Value)(w:World)(K:Ending→World→Prop):wpX prog 9 [] [] none (aK Tryz.f32) (topQ prog [.tmp 4] K) (aJ [t0,t1]) [] w=cG t0 t1 w K:=by kernel_rfl
theorem iY {t0 t1:Value}{w:World}{K:Ending→World→Prop}(h:cG t0 t1 w K):Calls prog 32 #[t0,t1] w K:=
 aA Tryz.func32 rfl rfl rfl rfl (Eq.mpr (iX t0 t1 w K) h)
end
end Go.Proofs.YtoofficgclghoaaGreatDoor

namespace Go.Proofs.YtoofficgclghoaaGreatDoor
section
open Eng
def yT (w:World)(K:Ending→World→Prop):Prop:=
 DoX prog (aN 42) w (pk K) fun t0 w=>
 DoX prog (aG 42 #[]) w (pk K) fun t1 w=>
 DoX prog (aD 42 t0 t1) w (pk K) fun _ w=>
 RetX prog [.cell t0 42] w K
theorem FB (w:World)(K:Ending→World→Prop):wpX prog 2 [] [] none (aK Tryz.f179) (topQ prog [.cell 0 42] K) (aJ []) [] w=yT w K:=by kernel_rfl
theorem Gl {w:World}{K:Ending→World→Prop}(h:yT w K):Calls prog 179 #[] w K:=
 aA Tryz.func179 rfl rfl rfl rfl (Eq.mpr (FB w K) h)
def Bi (t0:Value)(w:World)(K:Ending→World→Prop):Prop:=
 DoX prog (aN 42) w (pk K) fun t2 w=>
 DoX prog (aG 42 #[(0,(.int .i64 2)),(1,t0)]) w (pk K) fun t4 w=>
 DoX prog (aD 42 t2 t4) w (pk K) fun _ w=>
 RetX prog [.cell t2 42] w K
theorem Gr (t0:Value)(w:World)(K:Ending→World→Prop):wpX prog 5 [] [] none (aK Tryz.f175) (topQ prog [.cell 2 42] K) (aJ [t0]) [] w=Bi t0 w K:=by kernel_rfl
theorem GO {t0:Value}{w:World}{K:Ending→World→Prop}(h:Bi t0 w K):Calls prog 175 #[t0] w K:=
 aA Tryz.func175 rfl rfl rfl rfl (Eq.mpr (Gr t0 w K) h)
def yG (t0:Value)(w:World)(K:Ending→World→Prop):Prop:=
 DoX prog (aN 42) w (pk K) fun t2 w=>
 DoX prog (aG 42 #[(0,(.int .i64 5)),(3,t0)]) w (pk K) fun t4 w=>
 DoX prog (aD 42 t2 t4) w (pk K) fun _ w=>
 RetX prog [.cell t2 42] w K
theorem Fl (t0:Value)(w:World)(K:Ending→World→Prop):wpX prog 5 [] [] none (aK Tryz.f178) (topQ prog [.cell 2 42] K) (aJ [t0]) [] w=yG t0 w K:=by kernel_rfl
theorem FN {t0:Value}{w:World}{K:Ending→World→Prop}(h:yG t0 w K):Calls prog 178 #[t0] w K:=
 aA Tryz.func178 rfl rfl rfl rfl (Eq.mpr (Fl t0 w K) h)
def qL (t0:Value)(w:World)(K:Ending→World→Prop):Prop:=
 DoX prog (aN 42) w (pk K) fun t2 w=>
 DoX prog (aG 42 #[(0,(.int .i64 4)),(3,t0)]) w (pk K) fun t4 w=>
 DoX prog (aD 42 t2 t4) w (pk K) fun _ w=>
 RetX prog [.cell t2 42] w K
theorem CO (t0:Value)(w:World)(K:Ending→World→Prop):wpX prog 5 [] [] none (aK Tryz.f177) (topQ prog [.cell 2 42] K) (aJ [t0]) [] w=qL t0 w K:=by kernel_rfl
theorem Df {t0:Value}{w:World}{K:Ending→World→Prop}(h:qL t0 w K):Calls prog 177 #[t0] w K:=
 aA Tryz.func177 rfl rfl rfl rfl (Eq.mpr (CO t0 w K) h)
end
section
open Eng
def dP (t0 t1 t7 t8:Value)(w:World)(N1:List Value→World→Prop)(K:Ending→World→Prop):Prop:=
 DoX prog (mBin .lss 3 t8 t7) w (pk K) fun t9 w=>
 IfX t9 (DoX prog (mIA 39 t0 t8) w (pk K) fun t14 w=>
 DoX prog (aB 9 t14) w (pk K) fun t15 w=>
 DoX prog (mEq .eql 9 (.tmp 11) (.tmp 15) t1 t15) w (pk K) fun t16 w=>
 IfX t16 (K (.returned t8) w) (DoX prog (mBin .add 3 t8 (.int .i64 1)) w (pk K) fun t18 w=>
 N1 [t18] w)) (K (.returned (.int .i64 (-1))) w)
def cQ (t0 t1:Value)(w:World)(K:Ending→World→Prop):Prop:=
 DoX prog (mB .len #[39] 3 #[false] #[t0]) w (pk K) fun t7 w=>
 LoopX [(.int .i64 0)] w (fun vs1 w N1=>∀_:Sg,dP t0 t1 t7 (vs1.getD 0 undef) w N1 K)
theorem kY (t0 t1:Value)(w:World)(K:Ending→World→Prop):wpX prog 19 [] [(2,[8])] none (aK Tryz.f58) (topQ prog [.tmp 4] K) (aJ [t0,t1]) [] w=cQ t0 t1 w K:=by kernel_rfl
theorem kZ {t0 t1:Value}{w:World}{K:Ending→World→Prop}(h:cQ t0 t1 w K):Calls prog 58 #[t0,t1] w K:=
 aA Tryz.func58 rfl rfl rfl rfl (Eq.mpr (kY t0 t1 w K) h)
end
section
open Eng Go.RowKit
theorem VJ:dF prog 9=true:=by kernel_rfl
theorem Us {l:List (List UInt8)}{x:List UInt8}{i:Nat}(h:i < l.length)(hn:x ∉ l.take i)(he:l[i]=x):l.idxOf x=i:=by
 have e:l=l.take i++(l[i]::l.drop (i+1)):=by
  rw[←List.drop_eq_getElem_cons h,List.take_append_drop]
 rw[e,List.idxOf_append,if_neg hn,he,List.idxOf_cons_self,List.length_take];omega
theorem Nr (va:Value)(l:List (List UInt8))(x:List UInt8)(w:World)(ha:Sl w va 1 l.length (bR l))(hl:l.length≤1099511627776) :
  Ret prog 58 #[va,.string ⟨x.toArray⟩] w (fun v w'=>v=.int .i64 (if l.idxOf x < l.length then (l.idxOf x:Int) else -1)∧w=w'):=by
 refine aO fun K hK=>kZ ?_;unfold cQ;rw[bF Tryz.underlying39 ha];refine loop (fun vs w'=>∃(i:Nat),vs=[.int .i64 i]∧i≤l.length∧x ∉ l.take i∧w=w') (fun vs _=>l.length - n0 vs) ⟨0,rfl,by omega,by simp,rfl⟩ ?_;rintro vs w2 ⟨i,rfl,hi,hm,rfl⟩ _;simp only[dP,gd,rs];by_cases hlt:(i:Int) < (l.length:Int)
 ·have hi':i < l.length:=by omega
  simp only[hlt,decide_true,rs];refine JZ (.string ⟨(l[i]).toArray⟩) Tryz.underlying39 (by kernel_rfl) ha (by omega) (by rw[Int.toNat_natCast];exact eB hi') fun q hq=>?_;rw[aW VJ hq];simp only[rs];by_cases he:x=l[i]
  ·simp only[←he,decide_true,rs];have:=Us hi' hm he.symm;exact hK _ _ ⟨by rw[this,if_pos hi'],rfl⟩
  ·simp only[he,decide_false,rs];rw[aC (by omega) (by omega)];refine bG ⟨i+1,rfl,by omega,?_,rfl⟩ (by simp[n0,RowKit.intOf];omega);rw[List.take_add_one,List.getElem?_eq_getElem hi'];simp only[Option.toList,List.mem_append,List.mem_singleton,not_or];exact⟨hm,he⟩
 ·simp only[hlt,decide_false,i_f];rw[List.take_of_length_le (by omega)] at hm;exact hK _ _ ⟨by rw[if_neg (by rw[List.idxOf_lt_length_iff];exact hm)],rfl⟩
end
end Go.Proofs.YtoofficgclghoaaGreatDoor


namespace Go.Proofs.YtoofficgclghoaaGreatDoor
section
open Eng Go.RowKit
theorem Eng.Mem.le.trans {M N O:Mem}(h:M.le N)(k:N.le O):M.le O:=Mem.le_trans h k
theorem bJ {w:World}{T:TypeId}{sz:Nat}{v:Value}{n:Nat}{xs:List Value}(h:(Ent.urow T sz v n xs).is w):v.oneCell'=true:=by
 rcases (show w.ownsRow 0 T sz v n xs from h).2 with ⟨rfl,_⟩|⟨g,cap,cur,rfl,_⟩<;>rfl
theorem oJ {A:Nat→Prop}{w:World}:∀{os ps:List Ob} {cs ds:List Value},OVs A w cs os→OVs A w ds ps→OVs A w (cs++ds) (os++ps)
|[],ps,cs,ds,h,k=>by rw[OVs] at h;subst h;simpa using k
|o::os,ps,cs,ds,h,k=>by
  rw[OVs] at h;obtain⟨a,rest,rfl,hl,h1,h2⟩:=h;rw[List.cons_append,OVs];exact⟨a,rest++ds,by simp,hl,h1,oJ h2 k⟩
theorem DQ {A:Nat→Prop}{w:World}{o:Ob}{vk vc:Value}(h:OV A w (obV o vk vc) o):OVs A w (obC o vk vc) [o]:=by
 rw[OVs];exact⟨obC o vk vc,[],by simp,rfl,h,OVs.nil⟩
end
section
open Eng Go.RowKit
section
variable {w:World}{S:Nat→Prop}{w0:World}{L:List Ent}
theorem TZ {PK:PKT}{K:VWP}:DoX prog (aG 42 #[]) w PK K=K (obV Vl.ob0 nilS nilS) w:=aT (by kernel_rfl)
end
theorem PZ (w:World):Ret prog 179 #[] w (obR (ob1 0 0 0 []) nilS nilS w):=by
 refine aO fun K hK=>Gl ?_;unfold yT;refine bU (Own.start w) fun b w1 ho=>?_;rw[TZ];refine bA 0 rfl rfl ho rfl fun w2 ho=>?_;exact rY ho (hK _ _ ⟨rfl,ho.done⟩)
theorem Rc (n:Int)(w:World):Ret prog 175 #[.int .i64 n] w (obR (ob1 2 n 0 []) nilS nilS w):=by
 refine aO fun K hK=>GO ?_;unfold Bi;refine bU (Own.start w) fun b w1 ho=>?_;have hb:∀{PK:PKT} {K:VWP},DoX prog (aG 42 #[(0,(.int .i64 2)),(1,.int .i64 n)]) w1 PK K=K (obV (ob1 2 n 0 []) nilS nilS) w1:=aT (by kernel_rfl);rw[hb];refine bA 0 rfl rfl ho rfl fun w2 ho=>?_;exact rY ho (hK _ _ ⟨rfl,ho.done⟩)
theorem Re (s:List UInt8)(w:World):Ret prog 177 #[.string ⟨s.toArray⟩] w (obR (ob1 4 0 0 s) nilS nilS w):=by
 refine aO fun K hK=>Df ?_;unfold qL;refine bU (Own.start w) fun b w1 ho=>?_;have hb:∀{PK:PKT} {K:VWP},DoX prog (aG 42 #[(0,(.int .i64 4)),(3,.string ⟨s.toArray⟩)]) w1 PK K=K (obV (ob1 4 0 0 s) nilS nilS) w1:=aT (by kernel_rfl);rw[hb];refine bA 0 rfl rfl ho rfl fun w2 ho=>?_;exact rY ho (hK _ _ ⟨rfl,ho.done⟩)
theorem Qt (s:List UInt8)(w:World):Ret prog 178 #[.string ⟨s.toArray⟩] w (obR (ob1 5 0 0 s) nilS nilS w):=by
 refine aO fun K hK=>FN ?_;unfold yG;refine bU (Own.start w) fun b w1 ho=>?_;have hb:∀{PK:PKT} {K:VWP},DoX prog (aG 42 #[(0,(.int .i64 5)),(3,.string ⟨s.toArray⟩)]) w1 PK K=K (obV (ob1 5 0 0 s) nilS nilS) w1:=aT (by kernel_rfl);rw[hb];refine bA 0 rfl rfl ho rfl fun w2 ho=>?_;exact rY ho (hK _ _ ⟨rfl,ho.done⟩)
end
end Go.Proofs.YtoofficgclghoaaGreatDoor



namespace Go.Proofs.YtoofficgclghoaaGreatDoor
section
open Eng Go.RowKit
section
variable {P:Program}{w w0:World}{L:List Ent}{PK:PKT}{K:VWP}
end
theorem tK {b:Nat}{w:World}{PK:PKT}{K:VWP}:DoX prog (mFA 53 (.pointer (some ⟨b,0,none⟩)) 3) w PK K=K (.pointer (some ⟨b,3,none⟩)) w:=cF (show fOff prog 53 3=some 3 by kernel_rfl)
theorem bK {b:Nat}{w:World}{PK:PKT}{K:VWP}:DoX prog (mFA 53 (.pointer (some ⟨b,0,none⟩)) 4) w PK K=K (.pointer (some ⟨b,4,none⟩)) w:=cF (show fOff prog 53 4=some 4 by kernel_rfl)
end
end Go.Proofs.YtoofficgclghoaaGreatDoor
