/- Texts that go together: SRef14 AsR AsS AsT AsU SFilt SFilt16 FeA SRef16 FeB FeC EngAI SFiltR FeD. -/
import Derived.Test.YtlipjfcbjemicaaGreatDoorRows
import Derived.Test.YtlipjfcbjemicaaGreatDoorMmaflihpg
import Derived.Test.YtlipjfcbjemicaaGreatDoorMkdodoemo
import Derived.Test.YtlipjfcbjemicaaGreatDoorMikgnniin
import Derived.Test.YtlipjfcbjemicaaGreatDoorMbdjagian
import Derived.Test.YtlipjfcbjemicaaGreatDoorMcjgofdhk
set_option linter.defProp false
set_option linter.unusedSimpArgs false
set_option linter.unusedVariables false
set_option maxRecDepth 20000
open Go.Proofs.Tryz (prog)
namespace Go.Proofs.YtlipjfcbjemicaaGreatDoor
section
open Eng
def S_foliantref14_Unhex_2(t6 t7 t8 w)(N1:JT)(K:KT):=
 dx (mBin .add 3 t8 (iN 1)) w K fun t19 w=>N1 [t6,t7,t19] w
def S_foliantref14_Unhex_1(t6 w)(K:KT):=
 dx (mConv 53 9 t6) w K fun t49 w=>K (.returned (.tuple #[t49,(iN 0)])) w
def S_foliantref14_Unhex_0(t0 t1 t6 t7 t8 w)(N1:JT)(K:KT):=
 dx (mB .len #[9] 3 #[false] #[t0]) w K fun t16 w=>dx (mBin .lss 3 t8 t16) w K fun t17 w=>IfX t17 (JoinX (fun J2=>dx (mIx 9 t0 t8) w K fun t22 w=>cx 123 #[t22] w K fun t23 w=>IfX t23 (J2 [t6,t7] w) (dx (mIx 9 t0 t8) w K fun t26 w=>cx 124 #[t26] w K fun t27 w=>dx (mIx 9 t0 t8) w K fun t30 w=>dx (mEq .eql 5 (.tmp 30) (.const (.int .u8 62)) t30 (.int .u8 62)) w K fun t31 w=>IfX t31 (dx (mBin .geq 3 t7 (iN 0)) w K fun t33 w=>etx t33 t6 w fun t35 w=>gtx t33 (mB .len #[53] 3 #[false] #[t35]) w K fun t36 w=>etx t33 t1 w fun t37 w=>gtx t33 (mBin .geq 3 t36 t37) w K fun t38 w=>dx (mPick t33 t38 (.bool false)) w K fun t39 w=>IfX t39 (K (.returned (.tuple #[(.string ⟨#[]⟩),(iN 5)])) w) (JoinX (fun J3=>dx (mBin .geq 3 t7 (iN 0)) w K fun t41 w=>IfX t41 (dx (mBin .mul 3 (iN 16) t7) w K fun t44 w=>dx (mConv 3 5 t44) w K fun t45 w=>dx (mBuildS 53 1 #[(0,t45)]) w K fun t46 w=>dx (mB .append #[53,53] 53 #[false,false] #[t6,t46]) w K fun t47 w=>J3 [t47] w) (J3 [t6] w)) (fun vs3 w=>∀_:Sg,S_foliantref14_Unhex_1 (vs3.getD 0 undef) w K))) (dx (mBin .lss 3 t27 (iN 0)) w K fun t51 w=>IfX t51 (K (.returned (.tuple #[(.string ⟨#[]⟩),(iN 3)])) w) (dx (mBin .lss 3 t7 (iN 0)) w K fun t53 w=>IfX t53 (J2 [t6,t27] w) (dx (mB .len #[53] 3 #[false] #[t6]) w K fun t56 w=>dx (mBin .geq 3 t56 t1) w K fun t58 w=>IfX t58 (K (.returned (.tuple #[(.string ⟨#[]⟩),(iN 5)])) w) (dx (mBin .mul 3 (iN 16) t7) w K fun t61 w=>dx (mBin .add 3 t61 t27) w K fun t63 w=>dx (mConv 3 5 t63) w K fun t64 w=>dx (mBuildS 53 1 #[(0,t64)]) w K fun t65 w=>dx (mB .append #[53,53] 53 #[false,false] #[t6,t65]) w K fun t66 w=>J2 [t66,(iN (-1))] w)))))) (fun vs2 w=>∀_:Sg,S_foliantref14_Unhex_2 (vs2.getD 0 undef) (vs2.getD 1 undef) t8 w N1 K)) (K (.returned (.tuple #[(.string ⟨#[]⟩),(iN 4)])) w)
def S_foliantref14_Unhex(t0 t1 w)(K:KT):=
 dx (mBin .lss 3 t1 (iN 0)) w K fun t11 w=>IfX t11 (K (.returned (.tuple #[(.string ⟨#[]⟩),(iN 1)])) w) (dx (mB .min #[3,3] 3 #[false,true] #[t1,(iN 1048576)]) w K fun t13 w=>LoopX [(.slice none 0 0),(iN (-1)),(iN 0)] w (fun vs1 w N1=>∀_:Sg,S_foliantref14_Unhex_0 t0 t13 (vs1.getD 0 undef) (vs1.getD 1 undef) (vs1.getD 2 undef) w N1 K))
theorem S_foliantref14_Unhex_eq (t0 t1:Value)(w:World)(K:Ending→World→Prop):wpX prog 67 [(8,[6,7]),(16,[6])] [(7,[6,7,8])] none (bodyOf Tryz.f55) (topQ prog [.tmp 4,.tmp 5] K) (startX [t0,t1]) [] w=S_foliantref14_Unhex t0 t1 w K:=by kernel_rfl
theorem S_foliantref14_Unhex_ok {t0 t1:Value}{w:World}{K:Ending→World→Prop}(h:S_foliantref14_Unhex t0 t1 w K):Calls prog 55 #[t0,t1] w K:=
 calls_of_wpX Tryz.func55 rfl rfl rfl rfl (Eq.mpr (S_foliantref14_Unhex_eq t0 t1 w K) h)
def S_foliantref14_value_1(t3 t4 w)(N1:JT)(K:KT):=
 dx (mBin .add 3 t4 (iN 1)) w K fun t8 w=>N1 [t3,t8] w
def S_foliantref14_value_0(t0 t3 t4 w)(N1:JT)(K:KT):=
 dx (mBin .lss 3 t4 (iN 5)) w K fun t6 w=>IfX t6 (JoinX (fun J2=>dx (mBin .mul 147 t3 (.int .u64 85)) w K fun t10 w=>dx (mB .len #[53] 3 #[false] #[t0]) w K fun t13 w=>dx (mBin .lss 3 t4 t13) w K fun t14 w=>IfX t14 (dx (mIA 53 t0 t4) w K fun t18 w=>dx (mLoad 5 t18) w K fun t19 w=>dx (mConv 5 147 t19) w K fun t20 w=>dx (mBin .add 147 t10 t20) w K fun t21 w=>J2 [t21] w) (dx (mBin .add 147 t10 (.int .u64 84)) w K fun t23 w=>J2 [t23] w)) (fun vs2 w=>∀_:Sg,S_foliantref14_value_1 (vs2.getD 0 undef) t4 w N1 K)) (K (.returned t3) w)
def S_foliantref14_value(t0 w)(K:KT):=
 LoopX [(.int .u64 0),(iN 0)] w (fun vs1 w N1=>∀_:Sg,S_foliantref14_value_0 t0 (vs1.getD 0 undef) (vs1.getD 1 undef) w N1 K)
theorem S_foliantref14_value_eq (t0:Value)(w:World)(K:Ending→World→Prop):wpX prog 25 [(4,[3])] [(3,[3,4])] none (bodyOf Tryz.f126) (topQ prog [.tmp 2] K) (startX [t0]) [] w=S_foliantref14_value t0 w K:=by kernel_rfl
theorem S_foliantref14_value_ok {t0:Value}{w:World}{K:Ending→World→Prop}(h:S_foliantref14_value t0 w K):Calls prog 126 #[t0] w K:=
 calls_of_wpX Tryz.func126 rfl rfl rfl rfl (Eq.mpr (S_foliantref14_value_eq t0 w K) h)
def S_foliantref14_bytes(t0 t1 w)(K:KT):=
 dx (mBin .shr 147 t0 (.int .u64 24)) w K fun t7 w=>dx (mConv 147 5 t7) w K fun t8 w=>dx (mBin .shr 147 t0 (.int .u64 16)) w K fun t10 w=>dx (mConv 147 5 t10) w K fun t11 w=>dx (mBin .shr 147 t0 (.int .u64 8)) w K fun t13 w=>dx (mConv 147 5 t13) w K fun t14 w=>dx (mConv 147 5 t0) w K fun t16 w=>dx (mBuildS 53 4 #[(0,t8),(1,t11),(2,t14),(3,t16)]) w K fun t17 w=>dx (mSlice 53 t17 none (some t1) none) w K fun t20 w=>K (.returned t20) w
theorem S_foliantref14_bytes_ok{t0 t1 w K}(h:S_foliantref14_bytes t0 t1 w K):Calls prog 127 #[t0,t1] w K:=cw Tryz.func127 rfl rfl (by kernel_rfl) h
def S_foliantref14_last(t0 t1 t2 w)(K:KT):=
 dx (mB .len #[53] 3 #[false] #[t0]) w K fun t10 w=>dx (mEq .eql 3 (.tmp 10) (.const (iN 0)) t10 (iN 0)) w K fun t11 w=>IfX t11 (dx (mConv 53 9 t1) w K fun t13 w=>K (.returned (.tuple #[t13,(iN 0)])) w) (cx 126 #[t0] w K fun t15 w=>dx (mB .len #[53] 3 #[false] #[t0]) w K fun t17 w=>dx (mEq .eql 3 (.tmp 17) (.const (iN 1)) t17 (iN 1)) w K fun t18 w=>efx t18 t15 w fun t20 w=>gfx t18 (mBin .gtr 147 t20 (.int .u64 4294967295)) w K fun t21 w=>dx (mPick t18 (.bool true) t21) w K fun t22 w=>IfX t22 (K (.returned (.tuple #[(.string ⟨#[]⟩),(iN 3)])) w) (dx (mB .len #[53] 3 #[false] #[t0]) w K fun t24 w=>dx (mBin .sub 3 t24 (iN 1)) w K fun t25 w=>dx (mB .len #[53] 3 #[false] #[t1]) w K fun t28 w=>dx (mBin .sub 3 t2 t28) w K fun t29 w=>dx (mBin .gtr 3 t25 t29) w K fun t30 w=>IfX t30 (K (.returned (.tuple #[(.string ⟨#[]⟩),(iN 5)])) w) (dx (mB .len #[53] 3 #[false] #[t0]) w K fun t34 w=>dx (mBin .sub 3 t34 (iN 1)) w K fun t35 w=>cx 127 #[t15,t35] w K fun t36 w=>dx (mB .append #[53,53] 53 #[false,false] #[t1,t36]) w K fun t37 w=>dx (mConv 53 9 t37) w K fun t38 w=>K (.returned (.tuple #[t38,(iN 0)])) w)))
theorem S_foliantref14_last_ok{t0 t1 t2 w K}(h:S_foliantref14_last t0 t1 t2 w K):Calls prog 125 #[t0,t1,t2] w K:=cw Tryz.func125 rfl rfl (by kernel_rfl) h
def S_foliantref14_Unfive_2(t6 t7 t8 w)(N1:JT)(K:KT):=
 dx (mBin .add 3 t8 (iN 1)) w K fun t20 w=>N1 [t6,t7,t20] w
def S_foliantref14_Unfive_1(t1 t6 t10 w)(J2:JT)(K:KT):=
 dx (mBin .gtr 147 t10 (.int .u64 4294967295)) w K fun t76 w=>IfX t76 (K (.returned (.tuple #[(.string ⟨#[]⟩),(iN 3)])) w) (dx (mB .len #[53] 3 #[false] #[t6]) w K fun t79 w=>dx (mBin .sub 3 t1 t79) w K fun t80 w=>dx (mBin .lss 3 t80 (iN 4)) w K fun t81 w=>IfX t81 (K (.returned (.tuple #[(.string ⟨#[]⟩),(iN 5)])) w) (cx 127 #[t10,(iN 4)] w K fun t84 w=>dx (mB .append #[53,53] 53 #[false,false] #[t6,t84]) w K fun t85 w=>J2 [t85,(.slice none 0 0)] w))
def S_foliantref14_Unfive_0(t0 t1 t6 t7 t8 w)(N1:JT)(K:KT):=
 dx (mB .len #[9] 3 #[false] #[t0]) w K fun t17 w=>dx (mBin .lss 3 t8 t17) w K fun t18 w=>IfX t18 (JoinX (fun J2=>dx (mIx 9 t0 t8) w K fun t23 w=>cx 123 #[t23] w K fun t25 w=>IfX t25 (J2 [t6,t7] w) (dx (mEq .eql 5 (.tmp 26) (.const (.int .u8 126)) t23 (.int .u8 126)) w K fun t27 w=>IfX t27 (dx (mBin .add 3 t8 (iN 1)) w K fun t29 w=>dx (mB .len #[9] 3 #[false] #[t0]) w K fun t31 w=>dx (mEq .eql 3 (.tmp 29) (.tmp 31) t29 t31) w K fun t32 w=>IfX t32 (K (.returned (.tuple #[(.string ⟨#[]⟩),(iN 4)])) w) (dx (mBin .add 3 t8 (iN 1)) w K fun t35 w=>dx (mIx 9 t0 t35) w K fun t36 w=>dx (mEq .neq 5 (.tmp 36) (.const (.int .u8 62)) t36 (.int .u8 62)) w K fun t37 w=>IfX t37 (K (.returned (.tuple #[(.string ⟨#[]⟩),(iN 3)])) w) (cx 125 #[t7,t6,t1] w K fun t41 w=>dx (mExt t41 0) w K fun t42 w=>dx (mExt t41 1) w K fun t43 w=>K (.returned (.tuple #[t42,t43])) w))) (dx (mEq .neq 5 (.tmp 44) (.const (.int .u8 122)) t23 (.int .u8 122)) w K fun t45 w=>etx t45 t23 w fun t47 w=>gtx t45 (mBin .lss 5 t47 (.int .u8 33)) w K fun t48 w=>etx t45 t48 w fun t49 w=>efx t49 t23 w fun t50 w=>gfx t49 (mBin .gtr 5 t50 (.int .u8 117)) w K fun t51 w=>gtx t45 (mPick t49 (.bool true) t51) w K fun t52 w=>dx (mPick t45 t52 (.bool false)) w K fun t53 w=>efx t53 t23 w fun t55 w=>gfx t53 (mEq .eql 5 (.tmp 55) (.const (.int .u8 122)) t55 (.int .u8 122)) w K fun t56 w=>efx t53 t56 w fun t57 w=>etx t57 t7 w fun t58 w=>gtx t57 (mB .len #[53] 3 #[false] #[t58]) w K fun t59 w=>gtx t57 (mBin .gtr 3 t59 (iN 0)) w K fun t60 w=>gfx t53 (mPick t57 t60 (.bool false)) w K fun t61 w=>dx (mPick t53 (.bool true) t61) w K fun t62 w=>IfX t62 (K (.returned (.tuple #[(.string ⟨#[]⟩),(iN 3)])) w) (JoinX (fun J3=>dx (mEq .neq 5 (.tmp 63) (.const (.int .u8 122)) t23 (.int .u8 122)) w K fun t64 w=>IfX t64 (dx (mBin .sub 5 t23 (.int .u8 33)) w K fun t67 w=>dx (mBuildS 53 1 #[(0,t67)]) w K fun t68 w=>dx (mB .append #[53,53] 53 #[false,false] #[t7,t68]) w K fun t69 w=>dx (mB .len #[53] 3 #[false] #[t69]) w K fun t71 w=>dx (mBin .lss 3 t71 (iN 5)) w K fun t72 w=>IfX t72 (J2 [t6,t69] w) (cx 126 #[t69] w K fun t74 w=>J3 [t74] w)) (J3 [(.int .u64 0)] w)) (fun vs3 w=>∀_:Sg,S_foliantref14_Unfive_1 t1 t6 (vs3.getD 0 undef) w J2 K))))) (fun vs2 w=>∀_:Sg,S_foliantref14_Unfive_2 (vs2.getD 0 undef) (vs2.getD 1 undef) t8 w N1 K)) (K (.returned (.tuple #[(.string ⟨#[]⟩),(iN 4)])) w)
def S_foliantref14_Unfive(t0 t1 w)(K:KT):=
 dx (mBin .lss 3 t1 (iN 0)) w K fun t12 w=>IfX t12 (K (.returned (.tuple #[(.string ⟨#[]⟩),(iN 1)])) w) (dx (mB .min #[3,3] 3 #[false,true] #[t1,(iN 1048576)]) w K fun t14 w=>LoopX [(.slice none 0 0),(.slice none 0 0),(iN 0)] w (fun vs1 w N1=>∀_:Sg,S_foliantref14_Unfive_0 t0 t14 (vs1.getD 0 undef) (vs1.getD 1 undef) (vs1.getD 2 undef) w N1 K))
theorem S_foliantref14_Unfive_eq (t0 t1:Value)(w:World)(K:Ending→World→Prop):wpX prog 86 [(7,[6,7]),(23,[10])] [(6,[6,7,8])] none (bodyOf Tryz.f56) (topQ prog [.tmp 4,.tmp 5] K) (startX [t0,t1]) [] w=S_foliantref14_Unfive t0 t1 w K:=by kernel_rfl
theorem S_foliantref14_Unfive_ok {t0 t1:Value}{w:World}{K:Ending→World→Prop}(h:S_foliantref14_Unfive t0 t1 w K):Calls prog 56 #[t0,t1] w K:=
 calls_of_wpX Tryz.func56 rfl rfl rfl rfl (Eq.mpr (S_foliantref14_Unfive_eq t0 t1 w K) h)
def S_foliantref14_Unrun_3(t6 t11 w)(N3:JT)(K:KT):=
 dx (mBin .add 3 t11 (iN 1)) w K fun t55 w=>N3 [t6,t55] w
def S_foliantref14_Unrun_2(t0 t6 t7 t8 t9 t10 t11 w)(N1 N3:JT)(K:KT):=
 dx (mBin .lss 3 t11 t9) w K fun t53 w=>IfX t53 (JoinX (fun J4=>dx (mBin .gtr 3 t8 (iN 128)) w K fun t57 w=>IfX t57 (dx (mBin .add 3 t7 (iN 1)) w K fun t61 w=>dx (mIx 9 t0 t61) w K fun t62 w=>dx (mBuildS 53 1 #[(0,t62)]) w K fun t63 w=>dx (mB .append #[53,53] 53 #[false,false] #[t6,t63]) w K fun t64 w=>J4 [t64] w) (dx (mBin .add 3 t7 (iN 1)) w K fun t68 w=>dx (mBin .add 3 t68 t11) w K fun t70 w=>dx (mIx 9 t0 t70) w K fun t71 w=>dx (mBuildS 53 1 #[(0,t71)]) w K fun t72 w=>dx (mB .append #[53,53] 53 #[false,false] #[t6,t72]) w K fun t73 w=>J4 [t73] w)) (fun vs4 w=>∀_:Sg,S_foliantref14_Unrun_3 (vs4.getD 0 undef) t11 w N3 K)) (N1 [t6,t10] w)
def S_foliantref14_Unrun_1(t0 t1 t6 t7 t8 t9 t10 w)(N1:JT)(K:KT):=
 dx (mB .len #[9] 3 #[false] #[t0]) w K fun t43 w=>dx (mBin .gtr 3 t10 t43) w K fun t44 w=>IfX t44 (K (.returned (.tuple #[(.string ⟨#[]⟩),(iN 4)])) w) (dx (mB .len #[53] 3 #[false] #[t6]) w K fun t48 w=>dx (mBin .sub 3 t1 t48) w K fun t49 w=>dx (mBin .gtr 3 t9 t49) w K fun t50 w=>IfX t50 (K (.returned (.tuple #[(.string ⟨#[]⟩),(iN 5)])) w) (LoopX [t6,(iN 0)] w (fun vs3 w N3=>∀_:Sg,S_foliantref14_Unrun_2 t0 (vs3.getD 0 undef) t7 t8 t9 t10 (vs3.getD 1 undef) w N1 N3 K)))
def S_foliantref14_Unrun_0(t0 t1 t6 t7 w)(N1:JT)(K:KT):=
 dx (mB .len #[9] 3 #[false] #[t0]) w K fun t18 w=>dx (mBin .lss 3 t7 t18) w K fun t19 w=>IfX t19 (dx (mIx 9 t0 t7) w K fun t22 w=>dx (mConv 5 3 t22) w K fun t23 w=>dx (mEq .eql 3 (.tmp 24) (.const (iN 128)) t23 (iN 128)) w K fun t25 w=>IfX t25 (dx (mConv 53 9 t6) w K fun t27 w=>K (.returned (.tuple #[t27,(iN 0)])) w) (dx (mBin .add 3 t23 (iN 1)) w K fun t29 w=>dx (mBin .add 3 t7 (iN 1)) w K fun t31 w=>dx (mBin .add 3 t31 t23) w K fun t33 w=>dx (mBin .add 3 t33 (iN 1)) w K fun t34 w=>JoinX (fun J2=>dx (mBin .gtr 3 t23 (iN 128)) w K fun t36 w=>IfX t36 (dx (mBin .sub 3 (iN 257) t23) w K fun t38 w=>dx (mBin .add 3 t7 (iN 2)) w K fun t40 w=>J2 [t38,t40] w) (J2 [t29,t34] w)) (fun vs2 w=>∀_:Sg,S_foliantref14_Unrun_1 t0 t1 t6 t7 t23 (vs2.getD 0 undef) (vs2.getD 1 undef) w N1 K))) (K (.returned (.tuple #[(.string ⟨#[]⟩),(iN 4)])) w)
def S_foliantref14_Unrun(t0 t1 w)(K:KT):=
 dx (mBin .lss 3 t1 (iN 0)) w K fun t13 w=>IfX t13 (K (.returned (.tuple #[(.string ⟨#[]⟩),(iN 1)])) w) (dx (mB .min #[3,3] 3 #[false,true] #[t1,(iN 1048576)]) w K fun t15 w=>LoopX [(.slice none 0 0),(iN 0)] w (fun vs1 w N1=>∀_:Sg,S_foliantref14_Unrun_0 t0 t15 (vs1.getD 0 undef) (vs1.getD 1 undef) w N1 K))
theorem S_foliantref14_Unrun_eq (t0 t1:Value)(w:World)(K:Ending→World→Prop):wpX prog 75 [(13,[9,10]),(19,[6])] [(6,[6,7]),(18,[6,11])] none (bodyOf Tryz.f57) (topQ prog [.tmp 4,.tmp 5] K) (startX [t0,t1]) [] w=S_foliantref14_Unrun t0 t1 w K:=by kernel_rfl
theorem S_foliantref14_Unrun_ok {t0 t1:Value}{w:World}{K:Ending→World→Prop}(h:S_foliantref14_Unrun t0 t1 w K):Calls prog 57 #[t0,t1] w K:=
 calls_of_wpX Tryz.func57 rfl rfl rfl rfl (Eq.mpr (S_foliantref14_Unrun_eq t0 t1 w K) h)
end
section
open Eng Go.RowKit
theorem Ax.hexG_len (mo:Nat):∀(s:List UInt8) (h:Int) (out:List UInt8),out.length≤mo→(Ax.hexG mo s h out).1.length≤mo
|[],_,_,_=>Nat.zero_le _
|c::r,h,out,ho=>by
  unfold Ax.hexG
  repeat' split
  all_goals first|exact Ax.hexG_len mo r _ _ ho|exact ho|exact Nat.zero_le _|(simp;omega)|exact Ax.hexG_len mo r _ _ (by simp;omega)
theorem runhex14_ret (s:List UInt8)(most:Int)(w:World)(hs:s.length≤1000000000):Ret prog 55 #[.string ⟨s.toArray⟩,.int .i64 most] w (fun v w'=>v=zlT (Ax.unhex s most)∧Below w.heap.size w w'):=by
 refine ret_of fun K hK=>S_foliantref14_Unhex_ok ?_;generalize hX:Ax.unhex s most=X at hK;unfold Ax.unhex Ax.within at hX;unfold S_foliantref14_Unhex iN dx
 try simp only[rs]
 by_cases h0:most < 0
 ·rw[if_pos h0] at hX;simp only[h0,decide_true,i_t];exact hK _ _ ⟨by rw[←hX];rfl,Below.refl _ _⟩
 rw[if_neg h0] at hX;simp only[h0,decide_false,i_f];rw[m_min,show min most 1048576=((min most.toNat 1048576:Nat):Int) by omega];have hm:min most.toNat 1048576≤1048576:=Nat.min_le_right _ _;generalize min most.toNat 1048576=mo at hX hm;refine loop (fun vs W=>∃(i:Nat) (half:Int) (ov:Value) (out:List UInt8),vs=[ov,.int .i64 half,.int .i64 (i:Int)]∧i≤s.length∧-1≤half∧half≤15∧out.length≤mo∧Ax.hexG mo (s.drop i) half out=X∧OwnS NoB w W [outR ov out]) (fun vs _=>s.length - n2 vs) ⟨0,-1,nilS,[],rfl,by omega,by omega,by omega,by simp,hX,(Own.start w).nilU 5 1⟩ ?_;clear hX;rintro vs w1 ⟨i,half,ov,out,rfl,hi,h1,h2,hol,hX,ho⟩ _;simp only[S_foliantref14_Unhex_0,gd,iN,dx,gtx,etx,cx];rw[s_len Tryz.underlying9]
 try simp only[rs]
 by_cases hlt:(i:Int) < (s.length:Int)
 case neg=>
  simp only[hlt,decide_false,i_f];rw[List.drop_eq_nil_of_le (by omega)] at hX;exact hK _ _ ⟨by rw[←hX];rfl,ho.done⟩
 simp only[hlt,decide_true,i_t];have hi':i < s.length:=by omega
 rw[List.drop_eq_getElem_cons hi',Ax.hexG] at hX;have hc:=List.getElem?_eq_getElem hi';generalize s[i]=c at hX hc;refine join fun J hJ=>?_;have next:∀(half':Int) (ov':Value) (out':List UInt8) (W:World),-1≤half'→half'≤15→out'.length≤mo→Ax.hexG mo (s.drop (i+1)) half' out'=X→OwnS NoB w W [outR ov' out']→J [ov',.int .i64 half'] W:=by
  intro half' ov' out' W g1 g2 g3 g4 ho;refine hJ _ _ fun _=>?_;simp only[S_foliantref14_Unhex_2,gd,rs,iN,dx];rw[wrap64_id (by omega) (by omega)];exact nextX ⟨i+1,half',ov',out',rfl,by omega,g1,g2,g3,g4,ho⟩ (by simp[n2,RowKit.intOf];omega)
 have hix:∀{PK:PKT} {K:VWP} {W:World},DoX prog (mIx 9 (.string ⟨s.toArray⟩) (.int .i64 (i:Int))) W PK K=K (.int .u8 (c.toNat:Int)) W:=fun {_ _ _}=>s_ix Tryz.underlying9 (by omega) (by rw[Int.toNat_natCast];exact hc);rw[hix];refine c_eq (rwhite_ret c w1) ?_;have hdg:=dig_ge c;by_cases hw:Oc.white c=true
 ·rw[if_pos hw] at hX;rw[hw,i_t];exact next half ov out w1 h1 h2 hol hX ho
 rw[if_neg hw] at hX;rw[Bool.eq_false_iff.2 hw,i_f,hix];refine c_eq (rdigit_ret c w1) ?_;rw[hix]
 try simp only[rs]
 have put:∀{n:Nat} {PK:PKT} {K:VWP},(∀ov' W,OwnS NoB w W [outR ov' (out++[UInt8.ofNat n])]→K ov' W) →
   DoX prog (mBuildS 53 1 #[(0,.int .u8 ((UInt8.ofNat n).toNat:Int))]) w1 PK fun t w=>DoX prog (mB .append #[53,53] 53 #[false,false] #[ov,t]) w PK K:=by
  intro n PK K a1;refine o_u81 _ ho fun b8 w2 ho=>?_;refine o_appendU 1 Tryz.underlying53 elU8 (by decide) ho rfl (sl_one1 (ho.at_ 0 rfl) (by decide) rfl) bytesV_one' (by omega) (by omega) fun v' w10 ho=>a1 v' w10 ?_;rw[outR_app];exact ho.tail
 have olen:∀{PK:PKT} {K:VWP},DoX prog (mB .len #[53] 3 #[false] #[ov]) w1 PK K=K (.int .i64 (out.length:Int)) w1:=fun {_ _}=>do_eq (run_sllen (out_sl (ho.at_ 0 rfl)));by_cases h62:c=62
 ·rw[if_pos h62] at hX;simp only[show decide ((c.toNat:Int)=62)=true by rw[h62];rfl,i_t];by_cases hh:half < 0
  ·rw[if_pos hh] at hX;simp only[show decide ((0:Int)≤half)=false from decide_eq_false (by omega),rs,i_f];refine join fun J3 hJ3=>?_;refine hJ3 _ _ fun _=>?_;simp only[S_foliantref14_Unhex_1,gd,iN,dx];rw[c_bytes Tryz.underlying53 Tryz.underlying5 Tryz.underlying9 (out_sl (ho.at_ 0 rfl))];exact hK _ _ ⟨by rw[←hX];rfl,ho.done⟩
  rw[if_neg hh] at hX;simp only[show decide ((0:Int)≤half)=true from decide_eq_true (by omega),rs,i_t];rw[olen]
  try simp only[rs]
  by_cases hf:mo≤out.length
  ·rw[if_pos hf] at hX;simp only[show decide ((mo:Int)≤(out.length:Int))=true from decide_eq_true (by omega),i_t];exact hK _ _ ⟨by rw[←hX];rfl,ho.done⟩
  rw[if_neg hf] at hX;simp only[show decide ((mo:Int)≤(out.length:Int))=false from decide_eq_false (by omega),i_f];refine join fun J3 hJ3=>?_;rw[wrap64_id (by omega) (by omega),show 16*half=((16*half.toNat:Nat):Int) by omega];refine do_eq (run_c_int (by kernel_rfl) Tryz.underlying5) |>.mpr ?_;rw[wrap8];refine put fun ov' W ho=>?_;refine hJ3 _ _ fun _=>?_;simp only[S_foliantref14_Unhex_1,gd,iN,dx];rw[c_bytes Tryz.underlying53 Tryz.underlying5 Tryz.underlying9 (out_sl (ho.at_ 0 rfl))];exact hK _ _ ⟨by rw[←hX];rfl,ho.done⟩
 rw[if_neg h62] at hX;simp only[show decide ((c.toNat:Int)=62)=false from decide_eq_false (fun h=>h62 (UInt8.toNat_inj.1 (by rw[show (62:UInt8).toNat=62 from rfl];omega))),i_f];by_cases hd:Lx.digit c < 0
 ·rw[if_pos hd] at hX;simp only[hd,decide_true,i_t];exact hK _ _ ⟨by rw[←hX];rfl,ho.done⟩
 rw[if_neg hd] at hX;simp only[hd,decide_false,i_f];by_cases hh:half < 0
 ·rw[if_pos hh] at hX;simp only[hh,decide_true,i_t];exact next _ ov out w1 (by omega) (by omega) hol hX ho
 rw[if_neg hh] at hX;simp only[hh,decide_false,i_f];rw[olen]
 try simp only[rs]
 by_cases hf:mo≤out.length
 ·rw[if_pos hf] at hX;simp only[show decide ((mo:Int)≤(out.length:Int))=true from decide_eq_true (by omega),i_t];exact hK _ _ ⟨by rw[←hX];rfl,ho.done⟩
 rw[if_neg hf] at hX;simp only[show decide ((mo:Int)≤(out.length:Int))=false from decide_eq_false (by omega),i_f];rw[wrap64_id (n:=16*half) (by omega) (by omega),wrap64_id (by omega) (by omega),show 16*half+Lx.digit c=((16*half+Lx.digit c).toNat:Int) by omega];refine do_eq (run_c_int (by kernel_rfl) Tryz.underlying5) |>.mpr ?_;rw[wrap8];refine put fun ov' W ho=>?_;exact next _ ov' _ W (by omega) (by omega) (by simp;omega) hX ho
def Ax.runG (most:Nat):Nat→List UInt8→List UInt8→List UInt8×Int
|0,_,_=>([],13)
|f+1,s,out=>
  match s with
 |[]=>([],4)
 |c::r=>
   if c.toNat=128 then (out,0)
   else if c.toNat < 128 then
    if r.length < c.toNat+1 then ([],4)
    else if most < out.length+(c.toNat+1) then ([],5)
    else Ax.runG most f (r.drop (c.toNat+1)) (out++r.take (c.toNat+1))
   else if r.length < 1 then ([],4)
   else if most < out.length+(257 - c.toNat) then ([],5)
   else Ax.runG most f (r.drop 1) (out++Lib.repeatL (r.take 1) (257 - c.toNat))
def Ax.unrun (s:List UInt8)(most:Int):List UInt8×Int:=Ax.within (fun m=>Ax.runG m (s.length+1) s []) most
theorem unrun1_plain:plainB prog 188=true:=by kernel_rfl
theorem repeatL_len1 {s:List UInt8}(h:s.length=1):∀n,(Lib.repeatL s n).length=n
|0=>rfl
|n+1=>by rw[repeatL_snoc,List.length_append,repeatL_len1 h n,h]
theorem c_unrun1 {S:Nat→Prop}{w0 w:World}{T:List Ent}{PK:PKT}{K:VWP}(s:List UInt8)(b mo:Nat)(hs:s.length≤1000000000)(hm:mo≤1048576)(ho:OwnS S w0 w (Sk b mo nilS [] T))
  (kt:∀ov' out W,Ax.runG mo (s.length+1) s []=(out,0)→out.length≤mo→OwnS S w0 W (Sk b mo ov' out T)→K (.tuple #[]) W) (kf:∀e ov' out W,Ax.runG mo (s.length+1) s []=([],e)→OwnS S w0 W (Sk b mo ov' out T)→PK [upA e] W) :
  CallX prog 188 #[.string ⟨s.toArray⟩,.pointer (some ⟨b,0,none⟩)] w PK K:=by
 generalize hX:Ax.runG mo (s.length+1) s []=X at kt kf;refine⟨S_ascii_Unrun_1_ok ?_⟩;unfold S_ascii_Unrun_1;refine loop (fun vs W=>∃(t:List UInt8) (ov:Value) (out:List UInt8),vs=[.string ⟨t.toArray⟩]∧t.length≤s.length∧out.length≤mo∧(∃f,t.length < f∧Ax.runG mo f t out=X)∧OwnS S w0 W (Sk b mo ov out T)) (fun vs _=>strLen (vs.getD 0 undef)) ⟨s,nilS,[],rfl,Nat.le_refl _,by simp,⟨_,by omega,hX⟩,ho⟩ ?_;clear ho hX;rintro vs w1 ⟨t,ov,out,rfl,hi,hol,⟨f,hf,hX⟩,ho⟩ _;simp only[S_ascii_Unrun_1_0,gd,iN,dx,cx];obtain⟨f,rfl⟩:∃f',f=f'+1:=⟨f - 1,by omega⟩;unfold Ax.runG at hX;have he:∀{u:List UInt8} {W:World} {xo yo:Operand} {PK:PKT} {K:VWP},DoX prog (mEq .neq 9 xo yo (.string ⟨u.toArray⟩) (.string ⟨#[]⟩)) W PK K=K (.bool (decide (u≠[]))) W:=fun {u _ _ _ _ _}=>n_str (b:=[]);rw[he];cases t with
|nil=>exact c_aneed (fun h=>by simp at h) (fun _=>kf 4 ov out w1 hX.symm ho)
|cons c r=>
 rw[show decide ((c::r:List UInt8)≠[])=true from rfl];refine c_aneed (fun _=>?_) (fun h=>by cases h);dsimp only at hX;rw[s_ix (c:=c) Tryz.underlying9 (by decide) rfl,u8ix,s_from Tryz.underlying9 (by decide) (by simp;omega)];rw[show (1:Int).toNat=1 from rfl,List.drop_one,List.tail_cons];have hc:=UInt8.toNat_lt c;generalize c.toNat=n at hX hc;rw[List.length_cons] at hi hf
 try simp only[rs]
 by_cases h1:n=128
 ·rw[if_pos h1] at hX;simp only[show decide ((n:Int)=128)=true from decide_eq_true (by omega),i_t];exact kt ov out w1 hX.symm hol ho
 rw[if_neg h1] at hX;simp only[show decide ((n:Int)=128)=false from decide_eq_false (by omega),i_f];have put:∀{l:List UInt8} {W:World} {PK:PKT} {K:VWP},l.length≤1000→OwnS S w0 W (Sk b mo ov out T)→(out.length+l.length≤mo→∀ov' W,OwnS S w0 W (Sk b mo ov' (out++l) T)→K (.tuple #[]) W)→(mo < out.length+l.length→∀W,OwnS S w0 W (Sk b mo ov out T)→PK [upA 5] W) →
   DoX prog (mConv 9 53 (.string ⟨l.toArray⟩)) W PK fun t w=>CallX prog 178 #[.pointer (some ⟨b,0,none⟩),t] w PK K:=by
  intro l W PK K hl ho a1 a2;refine o_bconv Tryz.underlying9 Tryz.underlying53 Tryz.underlying5 ho fun b2 cap w2 ho=>?_;exact c_aput ho brd_mkr hm hol (by omega) a1 a2
 by_cases h2:n < 128
 ·rw[if_pos h2] at hX;simp only[show decide ((n:Int) < 128)=true from decide_eq_true (by omega),i_t];rw[s_len Tryz.underlying9]
  try simp only[rs]
  refine c_aneed (fun g=>?_) (fun g=>?_)
  rotate_left
  ·have:=of_decide_eq_false g;rw[if_pos (by omega)] at hX;exact kf 4 ov out w1 hX.symm ho
  have g:=of_decide_eq_true g;rw[if_neg (by omega)] at hX;rw[wrap64_id (by omega) (by omega),s_upto Tryz.underlying9 (by omega) (by omega),show ((n:Int)+1).toNat=n+1 by omega];have htl:(r.take (n+1)).length=n+1:=by rw[List.length_take];omega
  refine put (by omega) ho (fun g2 ov' W ho=>?_) (fun g2 W ho=>?_)
  ·rw[if_neg (by omega)] at hX;rw[s_from Tryz.underlying9 (by omega) (by omega),show ((n:Int)+1).toNat=n+1 by omega];refine nextX ⟨r.drop (n+1),ov',_,rfl,by rw[List.length_drop];omega,by rw[List.length_append];omega,⟨f,by rw[List.length_drop];omega,hX⟩,ho⟩ (by show strLen (.string ⟨(r.drop (n+1)).toArray⟩) < strLen (.string ⟨(c::r).toArray⟩);rw[strLen_is,strLen_is,List.length_drop,List.length_cons];omega)
  ·rw[if_pos (by omega)] at hX;exact kf 5 ov out W hX.symm ho
 rw[if_neg h2] at hX;simp only[show decide ((n:Int) < 128)=false from decide_eq_false (by omega),i_f]
 try rw[he]
 refine c_aneed (fun g=>?_) (fun g=>?_)
 rotate_left
 ·have g:=of_decide_eq_false g;rw[if_pos (by rw[Decidable.not_not.1 g];decide)] at hX;exact kf 4 ov out w1 hX.symm ho
 have g:r≠[]:=of_decide_eq_true g;have g:0 < r.length:=List.length_pos_iff.2 g;rw[if_neg (by omega)] at hX;rw[s_upto Tryz.underlying9 (by decide) (by omega),show (1:Int).toNat=1 from rfl]
 try simp only[rs]
 rw[wrap64_id (by omega) (by omega),show (257:Int) - (n:Int)=((257 - n:Nat):Int) by omega];have htl:(r.take 1).length=1:=by rw[List.length_take];omega
 refine c_below ho (repeat_ret (r.take 1) (257 - n) w1 (by rw[htl];omega) (by omega)) ?_;rintro _ w2 rfl ho;have hrl:=repeatL_len1 htl (257 - n);refine put (by omega) ho (fun g2 ov' W ho=>?_) (fun g2 W ho=>?_)
 ·rw[if_neg (by omega)] at hX;rw[s_from Tryz.underlying9 (by omega) (by omega),show (1:Int).toNat=1 from rfl];refine nextX ⟨r.drop 1,ov',_,rfl,by rw[List.length_drop];omega,by rw[List.length_append];omega,⟨f,by rw[List.length_drop];omega,hX⟩,ho⟩ (by show strLen (.string ⟨(r.drop 1).toArray⟩) < strLen (.string ⟨(c::r).toArray⟩);rw[strLen_is,strLen_is,List.length_drop,List.length_cons];omega)
 ·rw[if_pos (by omega)] at hX;exact kf 5 ov out W hX.symm ho
theorem aunrun_ret (s:List UInt8)(most:Int)(M:Mem)(w:World)(hs:s.length≤1000000000)(hM:M.has w):RetM prog 120 #[.string ⟨s.toArray⟩,.int .i64 most] M w (fun v _=>v=zlT (Ax.unrun s most)∧(Ax.unrun s most).1.length≤1048576):=by
 refine retM_of hM fun K hK=>S_ascii_Unrun_ok ?_;unfold S_ascii_Unrun dx cx;refine c_mem (OwnS.memS hM) 0 rfl (unpacked_ret _ unrun1_plain s most _ M w hM fun b mo hm ho kt kf=>c_unrun1 s b mo hs hm ho kt kf) ?_;rintro _ N w1 g1 ⟨rfl,hl⟩ ho;simp only[zlT,ex];exact hK _ _ N _ 0 ho rfl g1 ⟨rfl,hl⟩
end
section
open Eng Go.RowKit
section
variable {w:World}{PK:PKT}{K:VWP}{S:Nat→Prop}{w0:World}{L T:List Ent}
theorem o_put1 (c:UInt8){ov:Value}{out:List UInt8}(ho:OwnS S w0 w (outR ov out::T))(hl:out.length≤1000000000)(k:∀ov' W,OwnS S w0 W (outR ov' (out++[c])::T)→K ov' W) :
  DoX prog (mBuildS 53 1 #[(0,.int .u8 (c.toNat:Int))]) w PK fun t w=>DoX prog (mB .append #[53,53] 53 #[false,false] #[ov,t]) w PK K:=by
 refine o_u81 _ ho fun b8 w2 ho=>?_;refine o_appendU 1 Tryz.underlying53 elU8 (by decide) ho rfl (sl_one1 (ho.at_ 0 rfl) (by decide) rfl) bytesV_one' (by omega) (by omega) fun v' w10 ho=>k v' w10 ?_;rw[outR_app];exact ho.tail
theorem o_len8 {ov:Value}{out:List UInt8}(i:Nat)(ho:OwnS S w0 w L)(hi:L[i]?=some (outR ov out)):DoX prog (mB .len #[53] 3 #[false] #[ov]) w PK K=K (.int .i64 (out.length:Int)) w:=do_eq (run_sllen (out_sl (ho.at_ i hi)))
end
theorem runrun14_ret (s:List UInt8)(most:Int)(w:World)(hs:s.length≤1000000000):Ret prog 57 #[.string ⟨s.toArray⟩,.int .i64 most] w (fun v w'=>v=zlT (Ax.unrun s most)∧Below w.heap.size w w'):=by
 refine ret_of fun K hK=>S_foliantref14_Unrun_ok ?_;generalize hX:Ax.unrun s most=X at hK;unfold Ax.unrun Ax.within at hX;unfold S_foliantref14_Unrun iN dx
 try simp only[rs]
 by_cases h0:most < 0
 ·rw[if_pos h0] at hX;simp only[h0,decide_true,i_t];exact hK _ _ ⟨by rw[←hX];rfl,Below.refl _ _⟩
 rw[if_neg h0] at hX;simp only[h0,decide_false,i_f];rw[m_min,show min most 1048576=((min most.toNat 1048576:Nat):Int) by omega];have hm:min most.toNat 1048576≤1048576:=Nat.min_le_right _ _;generalize min most.toNat 1048576=mo at hX hm;refine loop (fun vs W=>∃(i:Nat) (ov:Value) (out:List UInt8),vs=[ov,.int .i64 (i:Int)]∧i≤s.length∧out.length≤mo∧(∃f,s.length - i < f∧Ax.runG mo f (s.drop i) out=X)∧OwnS NoB w W [outR ov out]) (fun vs _=>s.length - n1 vs) ⟨0,nilS,[],rfl,by omega,by simp,⟨_,by omega,hX⟩,(Own.start w).nilU 5 1⟩ ?_;clear hX;rintro vs w1 ⟨i,ov,out,rfl,hi,hol,⟨f,hf,hX⟩,ho⟩ _;simp only[S_foliantref14_Unrun_0,gd,iN,dx];obtain⟨f,rfl⟩:∃f',f=f'+1:=⟨f - 1,by omega⟩;unfold Ax.runG at hX;rw[s_len Tryz.underlying9]
 try simp only[rs]
 by_cases hlt:(i:Int) < (s.length:Int)
 case neg=>
  simp only[hlt,decide_false,i_f];rw[List.drop_eq_nil_of_le (by omega)] at hX;exact hK _ _ ⟨by rw[←hX];rfl,ho.done⟩
 simp only[hlt,decide_true,i_t];have hi':i < s.length:=by omega
 rw[List.drop_eq_getElem_cons hi'] at hX;dsimp only at hX;rw[s_ix Tryz.underlying9 (by omega) (by rw[Int.toNat_natCast];exact List.getElem?_eq_getElem hi'),u8ix];have hc:=UInt8.toNat_lt s[i];generalize s[i].toNat=n at hX hc;rw[List.length_drop,List.drop_drop] at hX
 try simp only[rs]
 by_cases h1:n=128
 ·rw[if_pos h1] at hX;simp only[show decide ((n:Int)=128)=true from decide_eq_true (by omega),i_t];rw[c_bytes Tryz.underlying53 Tryz.underlying5 Tryz.underlying9 (out_sl (ho.at_ 0 rfl))];exact hK _ _ ⟨by rw[←hX];rfl,ho.done⟩
 rw[if_neg h1] at hX;simp only[show decide ((n:Int)=128)=false from decide_eq_false (by omega),i_f];rw[wrap64_id (n:=(n:Int)+1) (by omega) (by omega),wrap64_id (n:=(i:Int)+1) (by omega) (by omega),wrap64_id (n:=(i:Int)+1+(n:Int)) (by omega) (by omega),wrap64_id (n:=(i:Int)+1+(n:Int)+1) (by omega) (by omega)];refine join fun J hJ=>?_;have main:∀(m nx:Nat) (src:List UInt8),m≤1000→i < nx→nx≤i+1000→(nx≤s.length→src.length=m∧∀j,j < m→src[j]?=s[if 128 < n then i+1 else i+1+j]?)→(if s.length < nx then ([],4) else if mo < out.length+m then ([],5) else Ax.runG mo f (s.drop nx) (out++src))=X→J [.int .i64 (m:Int),.int .i64 (nx:Int)] w1:=by
  intro m nx src g1 g2 g3 g4 hX;refine hJ _ _ fun _=>?_;simp only[S_foliantref14_Unrun_1,gd,iN,dx];rw[s_len Tryz.underlying9]
  try simp only[rs]
  by_cases h4:s.length < nx
  ·rw[if_pos h4] at hX;simp only[show decide ((s.length:Int) < (nx:Int))=true from decide_eq_true (by omega),i_t];exact hK _ _ ⟨by rw[←hX];rfl,ho.done⟩
  rw[if_neg h4] at hX;simp only[show decide ((s.length:Int) < (nx:Int))=false from decide_eq_false (by omega),i_f];obtain⟨g5,g6⟩:=g4 (by omega);rw[o_len8 0 ho rfl]
  try simp only[rs]
  rw[wrap64_id (by omega) (by omega)];by_cases h5:mo < out.length+m
  ·rw[if_pos h5] at hX;simp only[show decide ((mo:Int) - (out.length:Int) < (m:Int))=true from decide_eq_true (by omega),i_t];exact hK _ _ ⟨by rw[←hX];rfl,ho.done⟩
  rw[if_neg h5] at hX;simp only[show decide ((mo:Int) - (out.length:Int) < (m:Int))=false from decide_eq_false (by omega),i_f];refine loop (fun vs W=>∃(j:Nat) (ov:Value),vs=[ov,.int .i64 (j:Int)]∧j≤m∧OwnS NoB w W [outR ov (out++src.take j)]) (fun vs _=>m - n1 vs) ⟨0,ov,rfl,by omega,by rw[List.take_zero,List.append_nil];exact ho⟩ ?_;clear ho;rintro vs w2 ⟨j,ov,rfl,hj,ho⟩ _;simp only[S_foliantref14_Unrun_2,gd,rs,iN,dx];by_cases hjm:(j:Int) < (m:Int)
  case neg=>
   simp only[hjm,decide_false,i_f];have:j=m:=by omega
   subst this;rw[List.take_of_length_le (by omega)] at ho;exact nextX ⟨nx,ov,out++src,rfl,by omega,by rw[List.length_append];omega,⟨f,by omega,hX⟩,ho⟩ (by simp[n1,RowKit.intOf];omega)
  simp only[hjm,decide_true,i_t];have hj':j < src.length:=by omega
  have g7:=g6 j (by omega);rw[List.getElem?_eq_getElem hj'] at g7;refine join fun J4 hJ4=>?_;have next:∀ov' W,OwnS NoB w W [outR ov' (out++src.take j++[src[j]])]→J4 [ov'] W:=by
   intro ov' W ho;refine hJ4 _ _ fun _=>?_;simp only[S_foliantref14_Unrun_3,gd,rs,iN,dx];rw[wrap64_id (by omega) (by omega)];refine nextX ⟨j+1,ov',rfl,by omega,?_⟩ (by simp[n1,RowKit.intOf];omega);rw[List.take_succ_eq_append_getElem hj',←List.append_assoc];exact ho
  have hol2:(out++src.take j).length≤1000000000:=by rw[List.length_append,List.length_take];omega
  by_cases h6:128 < n
  ·simp only[show decide ((128:Int) < (n:Int))=true from decide_eq_true (by omega),i_t];rw[if_pos h6] at g7;rw[wrap64_id (by omega) (by omega),s_ix (c:=src[j]) Tryz.underlying9 (by omega) (by rw[show ((i:Int)+1).toNat=i+1 by omega];exact g7.symm)];exact o_put1 _ ho hol2 next
  ·simp only[show decide ((128:Int) < (n:Int))=false from decide_eq_false (by omega),i_f];rw[if_neg h6] at g7;rw[wrap64_id (n:=(i:Int)+1) (by omega) (by omega),wrap64_id (by omega) (by omega),s_ix (c:=src[j]) Tryz.underlying9 (by omega) (by rw[show ((i:Int)+1+(j:Int)).toNat=i+1+j by omega];exact g7.symm)];exact o_put1 _ ho hol2 next
 by_cases h2:n < 128
 ·rw[if_pos h2] at hX;simp only[show decide ((128:Int) < (n:Int))=false from decide_eq_false (by omega),i_f];have:=main (n+1) (i+1+n+1) ((s.drop (i+1)).take (n+1)) (by omega) (by omega) (by omega) (fun h=>⟨by rw[List.length_take,List.length_drop];omega,fun j hj=>by rw[if_neg (by omega),List.getElem?_take_of_lt hj,List.getElem?_drop]⟩) ?_
  ·exact this
  rw[←hX];by_cases k1:s.length < i+1+n+1
  ·rw[if_pos k1,if_pos (by omega)]
  ·rw[if_neg k1,if_neg (show ¬s.length - (i+1) < n+1 by omega)];rfl
 ·rw[if_neg h2] at hX;simp only[show decide ((128:Int) < (n:Int))=true from decide_eq_true (by omega),i_t];rw[wrap64_id (by omega) (by omega),wrap64_id (by omega) (by omega),show (257:Int) - (n:Int)=((257 - n:Nat):Int) by omega];refine main (257 - n) (i+2) (Lib.repeatL ((s.drop (i+1)).take 1) (257 - n)) (by omega) (by omega) (by omega) (fun h=>?_) ?_
  ·have hl:((s.drop (i+1)).take 1)=[s[i+1]]:=by
    rw[List.drop_eq_getElem_cons (by omega)];rfl
   rw[hl,repeatL_one];refine⟨List.length_replicate,fun j hj=>?_⟩;rw[if_pos (by omega),List.getElem?_replicate,if_pos hj,List.getElem?_eq_getElem]
  rw[←hX];by_cases k1:s.length < i+2
  ·rw[if_pos k1,if_pos (by omega)]
  ·rw[if_neg k1,if_neg (show ¬s.length - (i+1) < 1 by omega),List.drop_drop]
end
section
open Eng Go.RowKit
def Ax.pw:List Nat:=[52200625,614125,7225,85,1]
def Ax.dg (g:List UInt8)(i:Nat):Nat:=(g.getD i 84).toNat
def Ax.val (g:List UInt8):Nat:=(((Ax.dg g 0*85+Ax.dg g 1)*85+Ax.dg g 2)*85+Ax.dg g 3)*85+Ax.dg g 4
def Ax.vs (g:List UInt8):Nat→Nat
|0=>0
|i+1=>Ax.vs g i+Ax.dg g i*Ax.pw.getD i 0
theorem Ax.dg_lt (g:List UInt8)(i:Nat):Ax.dg g i < 256:=UInt8.toNat_lt _
theorem Ax.vs_5 (g:List UInt8):Ax.vs g 5=Ax.val g:=by
 simp only[Ax.vs,Ax.val,Ax.pw];show 0+Ax.dg g 0*52200625+Ax.dg g 1*614125+Ax.dg g 2*7225+Ax.dg g 3*85+Ax.dg g 4*1=_;omega
theorem lt5 {i:Nat}(h:i < 5):i=0∨i=1∨i=2∨i=3∨i=4:=by omega
theorem Ax.pw_le {i:Nat}(h:i < 5):Ax.pw.getD i 0≤52200625:=by
 rcases lt5 h with rfl|rfl|rfl|rfl|rfl<;>decide
theorem Ax.vs_le (g:List UInt8):∀i,i≤5→Ax.vs g i≤i*13311159375
|0,_=>Nat.le_refl _
|i+1,h=>by
  have h1:=Ax.vs_le g i (by omega);have h2:Ax.dg g i*Ax.pw.getD i 0≤255*52200625:=Nat.mul_le_mul (by have:=Ax.dg_lt g i;omega) (Ax.pw_le (by omega));simp only[Ax.vs];omega
def Ax.endG (mo:Nat)(r g out:List UInt8):List UInt8×Int:=
 if r=[] then ([],4)
 else if r.getD 0 0≠62∨g.length=1 then ([],3)
 else if g.length=0 then (out,0)
 else if 4294967296≤Ax.val g then ([],3)
 else if mo < out.length+(g.length - 1) then ([],5)
 else (out++(Zl.four (Ax.val g)).take (g.length - 1),0)
def Ax.fiveG (mo:Nat):List UInt8→List UInt8→List UInt8→List UInt8×Int
|[],_,_=>([],4)
|c::r,g,out=>
  if Oc.white c=true then Ax.fiveG mo r g out
  else if c.toNat=122∧g.length=0 then (if mo < out.length+4 then ([],5) else Ax.fiveG mo r [] (out++[0,0,0,0]))
  else if 33≤c.toNat∧c.toNat≤117 then
   if g.length+1 < 5 then Ax.fiveG mo r (g++[c - 33]) out
   else if 4294967296≤Ax.val (g++[c - 33]) then ([],3)
   else if mo < out.length+4 then ([],5)
   else Ax.fiveG mo r [] (out++Zl.four (Ax.val (g++[c - 33])))
  else if c.toNat=126 then Ax.endG mo r g out
  else ([],3)
def Ax.unfive (s:List UInt8)(most:Int):List UInt8×Int:=Ax.within (fun m=>Ax.fiveG m s [] []) most
def Pws (M:Mem):Prop:=M.A 0∧∀i,i < 5→M.w.cell? ⟨0,i,none⟩=some (.int .u64 ((Ax.pw.getD i 0:Nat):Int))
theorem Pws.le {M N:Mem}(h:M.le N)(k:Pws M):Pws N:=⟨h.A _ k.1,fun i hi=>Mem.cell h.has k.1 (k.2 i hi)⟩
def pwV:Value:=.agg #[.int .u64 52200625,.int .u64 614125,.int .u64 7225,.int .u64 85,.int .u64 1]
def gpC (d:List UInt8)(n:Nat):List Value:=bytesV d++[.int .i64 (n:Int)]
abbrev gpE (b:Nat)(d:List UInt8)(n:Nat):Ent:=.cells b (gpC d n) 201
def gp0 (g:List UInt8):List UInt8:=g++List.replicate (5 - g.length) 0
theorem gp0_len {g:List UInt8}(h:g.length≤5):(gp0 g).length=5:=by unfold gp0;rw[List.length_append,List.length_replicate];omega
theorem fo_gp0:fOff prog 201 0=some 0:=by kernel_rfl
theorem fo_gp1:fOff prog 201 1=some 5:=by kernel_rfl
theorem szGp:(Tryz.prog.info? 201).map (·.size)=some 6:=by kernel_rfl
theorem sz4b:(Tryz.prog.info? 192).map (·.size)=some 4:=by kernel_rfl
theorem aggPw:aggN prog 197=some 5:=by kernel_rfl
theorem gpC_many {d:List UInt8}{n:Nat}(h:d.length=5):(gpC d n)[5]?=some (.int .i64 (n:Int)):=by
 unfold gpC;rw[List.getElem?_append_right (by rw[bytesV_len];omega),bytesV_len,h];rfl
theorem gpC_get {d:List UInt8}{n i:Nat}(h:i < d.length):(gpC d n)[i]?=some (.int .u8 (d[i].toNat:Int)):=by
 unfold gpC;rw[List.getElem?_append_left (by rw[bytesV_len];exact h),bytesV_get h]
theorem gpC_set {d:List UInt8}{n i:Nat}{c:UInt8}(h:i < d.length):(gpC d n).set i (.int .u8 (c.toNat:Int))=gpC (d.set i c) n:=by
 unfold gpC;rw[List.set_append_left _ _ (by rw[bytesV_len];exact h)];simp[bytesV,List.map_set]
theorem gpC_setN {d:List UInt8}{n m:Nat}(h:d.length=5):(gpC d n).set 5 (.int .i64 (m:Int))=gpC d m:=by
 unfold gpC;rw[List.set_append_right _ _ (by rw[bytesV_len];omega),bytesV_len,h];rfl
theorem gpC_len {d:List UInt8}{n:Nat}:(gpC d n).length=d.length+1:=by simp[gpC,bytesV_len]
theorem shr64 {n k:Nat}(hk:k≤64):((n:Nat):Int).fdiv (2 ^ (min ((k:Nat):Int).toNat IntKind.u64.bits))=((n / 2 ^ k:Nat):Int):=by
 rw[show min ((k:Nat):Int).toNat IntKind.u64.bits=k by show min ((k:Nat):Int).toNat 64=k;omega,fdivN]
theorem wrapU6 {n:Nat}(h:n < 18446744073709551616):IntKind.u64.wrap (n:Int)=(n:Int):=by unfold IntKind.wrap;simp[IntKind.bits,IntKind.signed];omega
theorem Sl.pre {W:World}{b cap h:Nat}{l:List UInt8}{T:TypeId}(hw:W.heap[b]?=some (.cells (bytesV l).toArray T (0,0)))(hh:h≤l.length):Sl W (.slice (some ⟨b,0,none⟩) h cap) 1 (l.take h).length (bytesV (l.take h)):=by
 have hl:(l.take h).length=h:=by rw[List.length_take];omega
 refine⟨by rw[bytesV_len,Nat.mul_one],some ⟨b,0,none⟩,cap,by rw[hl],(fun h=>by cases h),fun p hp=>by
  cases hp;refine⟨fun _=>rfl,fun j u hj=>?_⟩;rw[Nat.zero_add];refine cells_cell (T:=T) (cs:=bytesV l) hw ?_;have:bytesV (l.take h)=(bytesV l).take h:=by simp[bytesV,List.map_take]
  rw[this] at hj;have hj2:=(List.getElem?_eq_some_iff.1 hj).1;rw[List.length_take] at hj2
  rwa [List.getElem?_take_of_lt (by omega)] at hj⟩
section
variable {w:World}{PK:PKT}{K:VWP}{S:Nat→Prop}{w0:World}{L T:List Ent}
theorem pw_load {M:Mem}{W:World}(h:Pws M)(hm:M.has W):DoX prog (mLoad 197 (.pointer (some ⟨0,0,none⟩))) W PK K=K pwV W:=by
 refine l_at (AtV.agg (cs:=[.int .u64 52200625,.int .u64 614125,.int .u64 7225,.int .u64 85,.int .u64 1]) aggPw rfl fun j v hj=>?_);have hj5:j < 5:=(List.getElem?_eq_some_iff.1 hj).1;rw[Nat.zero_add,Mem.cell hm h.1 (h.2 j hj5)];rcases lt5 hj5 with rfl|rfl|rfl|rfl|rfl<;>exact hj
theorem r_pwix {i:Nat}(hi:i < 5):(mIx 197 pwV (.int .i64 (i:Int))).run prog w=.ok (.value (.int .u64 ((Ax.pw.getD i 0:Nat):Int))) w:=by
 rcases lt5 hi with rfl|rfl|rfl|rfl|rfl<;>kernel_rfl
theorem r_gpia {b i:Nat}(hi:i < 5):(mIA 199 (.pointer (some ⟨b,0,none⟩)) (.int .i64 (i:Int))).run prog w=.ok (.value (.pointer (some ⟨b,i,none⟩))) w:=by
 rcases lt5 hi with rfl|rfl|rfl|rfl|rfl<;>kernel_rfl
theorem r_4sl {b h:Nat}(hh:h≤4):(mSlice 192 (.pointer (some ⟨b,0,none⟩)) none (some (.int .i64 (h:Int))) none).run prog w=.ok (.value (.slice (some ⟨b,0,none⟩) h 4)) w:=by
 rcases (by omega:h=0∨h=1∨h=2∨h=3∨h=4) with rfl|rfl|rfl|rfl|rfl<;>kernel_rfl
theorem gp_many (ho:OwnS S w0 w L)(j:Nat){b n:Nat}{d:List UInt8}(hi:L[j]?=some (gpE b d n))(hd:d.length=5):DoX prog (mLoad 3 (.pointer (some ⟨b,0+5,none⟩))) w PK K=K (.int .i64 (n:Int)) w:=l_cell nInt5 (ho.cell j hi 5 (gpC_many hd))
theorem c_gput {b mo gb:Nat}{ov:Value}{out g:List UInt8}{M:Mem}(ho:OwnS S w0 w (Sk b mo ov out (gpE gb (gp0 g) g.length::.mem M::T)))(hpw:Pws M)(hm:mo≤1048576)(hol:out.length≤mo)(hg1:1≤g.length)(hg5:g.length≤5)
  (kt:Ax.val g < 4294967296→out.length+(g.length - 1)≤mo→∀ov' W,OwnS S w0 W (Sk b mo ov' (out++(Zl.four (Ax.val g)).take (g.length - 1)) (gpE gb (gp0 []) 0::.mem M::T))→K (.tuple #[]) W)
  (k3:4294967296≤Ax.val g→∀W,OwnS S w0 W (Sk b mo ov out (.mem M::T))→PK [upA 3] W)
  (k5:Ax.val g < 4294967296→mo < out.length+(g.length - 1)→∀W,OwnS S w0 W (Sk b mo ov out (.mem M::T))→PK [upA 5] W) :
  CallX prog 184 #[.pointer (some ⟨gb,0,none⟩),.pointer (some ⟨b,0,none⟩)] w PK K:=by
 refine⟨S_ascii_group_put_ok ?_⟩;unfold S_ascii_group_put dx
 try rw[m_nilP]
 rw[f_addr fo_gp1,gp_many ho 2 rfl (gp0_len hg5)];refine loop (fun vs W=>∃(i:Nat) (d:List UInt8),vs=[.int .i64 (i:Int)]∧g.length≤i∧i≤5∧d.length=5∧(∀j,j < i→(d.getD j 0).toNat=Ax.dg g j)∧OwnS S w0 W (Sk b mo ov out (gpE gb d g.length::.mem M::T))) (fun vs _=>5 - n0 vs) ⟨g.length,gp0 g,rfl,Nat.le_refl _,hg5,gp0_len hg5,fun j hj=>by
  unfold gp0 Ax.dg;rw[List.getD_eq_getElem?_getD,List.getElem?_append_left hj,List.getD_eq_getElem?_getD,List.getElem?_eq_getElem hj];rfl,ho⟩ ?_
 clear ho;rintro vs w1 ⟨i,d,rfl,hi1,hi5,hd,hdj,ho⟩ _;simp only[S_ascii_group_put_0,gd,rs,iN,dx];by_cases hlt:(i:Int) < 5
 ·simp only[hlt,decide_true,i_t]
  try rw[m_nilP]
  rw[f_addr fo_gp0];refine do_eq (r_gpia (by omega)) |>.mpr ?_;refine o_store 2 ho rfl (by kernel_rfl) rfl (by rw[gpC_len];omega) fun w2 ho=>?_;rw[wrap64_id (by omega) (by omega)];refine nextX ⟨i+1,d.set i 84,rfl,by omega,by omega,by rw[List.length_set];exact hd,fun j hj=>?_,?_⟩ (by simp[n0,RowKit.intOf];omega)
  ·rw[List.getD_eq_getElem?_getD,List.getElem?_set];split
   ·rename_i h;subst h
    rw[if_pos (by omega)];unfold Ax.dg;rw[List.getD_eq_getElem?_getD,List.getElem?_eq_none (by omega)];rfl
   ·rw[←List.getD_eq_getElem?_getD];exact hdj j (by omega)
  ·have e:(gpC d g.length).set i (.int .u8 84)=gpC (d.set i 84) g.length:=gpC_set (c:=84) (by omega);show OwnS S w0 w2 (Sk b mo ov out (.cells gb (gpC (d.set i 84) g.length) 201::.mem M::T));rw[←e];exact ho
 simp only[hlt,decide_false,i_f];have:i=5:=by omega
 subst this;rw[pw_load hpw (ho.hasM 3 rfl)];refine loop (fun vs W=>∃i:Nat,vs=[.int .u64 ((Ax.vs g i:Nat):Int),.int .i64 (i:Int)]∧i≤5∧OwnS S w0 W (Sk b mo ov out (gpE gb d g.length::.mem M::T))) (fun vs _=>5 - n1 vs) ⟨0,rfl,by omega,ho⟩ ?_;clear ho;rintro vs w2 ⟨i,rfl,hi5,ho⟩ _;simp only[S_ascii_group_put_1,gd,rs,iN,dx,cx];by_cases hlt:(i:Int) < 5
 ·simp only[hlt,decide_true,i_t];refine do_eq (r_pwix (by omega)) |>.mpr ?_
  try rw[m_nilP]
  rw[f_addr fo_gp0];refine do_eq (r_gpia (by omega)) |>.mpr ?_;rw[l_cell nU8l (ho.cell 2 rfl i (gpC_get (by omega)))];refine do_eq (run_c_int (by kernel_rfl) Tryz.underlying147) |>.mpr ?_;have e1:d[i].toNat=Ax.dg g i:=by
   have:=hdj i (by omega)
   rwa [List.getD_eq_getElem?_getD,List.getElem?_eq_getElem (by omega),Option.getD_some] at this
  have h1:=Ax.dg_lt g i;have h2:Ax.dg g i*Ax.pw.getD i 0≤255*52200625:=Nat.mul_le_mul (by omega) (Ax.pw_le (by omega));have h3:=Ax.vs_le g i (by omega);rw[e1,wrapU6 (by omega)]
  try simp only[rs]
  rw[show ((Ax.dg g i:Nat):Int)*((Ax.pw.getD i 0:Nat):Int)=((Ax.dg g i*Ax.pw.getD i 0:Nat):Int) by push_cast;rfl,wrapU6 (by omega),show ((Ax.vs g i:Nat):Int)+((Ax.dg g i*Ax.pw.getD i 0:Nat):Int)=((Ax.vs g (i+1):Nat):Int) by simp only[Ax.vs];push_cast;rfl,
   wrapU6 (by simp only[Ax.vs];omega),wrap64_id (by omega) (by omega)]
  exact nextX ⟨i+1,rfl,by omega,ho⟩ (by simp[n1,RowKit.intOf];omega)
 simp only[hlt,decide_false,i_f];have:i=5:=by omega
 subst this;have h3:=Ax.vs_le g 5 (by omega);rw[Ax.vs_5] at h3 ⊢;refine c_aneed (fun h=>?_) (fun h=>?_)
 rotate_left
 ·have:=of_decide_eq_false h;exact k3 (by omega) w2 (ho.sub (.cons_cons _ (.cons_cons _ (.cons _ (List.Sublist.refl _)))))
 have hv:=of_decide_eq_true h;have hv:Ax.val g < 4294967296:=by omega
 generalize Ax.val g=v at kt k5 hv;have hsh:∀k:Nat,k≤64→∀{W:World} {PK:PKT} {K:VWP},DoX prog (mBin .shr 147 (.int .u64 (v:Int)) (.int .u64 (k:Int))) W PK K=K (.int .u64 ((v / 2 ^ k:Nat):Int)) W:=by
  intro k hk W PK K;rw[b_shr (by omega),shr64 hk]
 rw[show (24:Int)=((24:Nat):Int) from rfl,hsh 24 (by omega)];refine do_eq (run_c_int (by kernel_rfl) Tryz.underlying5) |>.mpr ?_;rw[wrap8,show (16:Int)=((16:Nat):Int) from rfl,hsh 16 (by omega)];refine do_eq (run_c_int (by kernel_rfl) Tryz.underlying5) |>.mpr ?_;rw[wrap8,show (8:Int)=((8:Nat):Int) from rfl,hsh 8 (by omega)];refine do_eq (run_c_int (by kernel_rfl) Tryz.underlying5) |>.mpr ?_;rw[wrap8];refine do_eq (run_c_int (by kernel_rfl) Tryz.underlying5) |>.mpr ?_;rw[wrap8];have hb4:∀{a b c d:Int} {W:World} {PK:PKT} {K:VWP},DoX prog (mBuild 192 #[(0,.int .u8 a),(1,.int .u8 b),(2,.int .u8 c),(3,.int .u8 d)]) W PK K=K (.agg #[.int .u8 a,.int .u8 b,.int .u8 c,.int .u8 d]) W:=fun {_ _ _ _ _ _ _}=>do_eq (by kernel_rfl);rw[hb4];refine o_new (fun b=>.pointer (some ⟨b,0,none⟩)) (bytesV [0,0,0,0]) 192 (fun _=>by kernel_rfl) ho fun b8 w3 ho=>?_;refine o_put 0 ho rfl (new:=bytesV (Zl.four v)) sz4b bytesV_one' rfl fun w4 ho=>?_
 try rw[m_nilP]
 rw[f_addr fo_gp1,gp_many ho 3 rfl hd]
 try simp only[rs]
 rw[wrap64_id (by omega) (by omega),show ((g.length:Int) - 1)=((g.length - 1:Nat):Int) by omega];refine do_eq (r_4sl (by omega)) |>.mpr ?_;have htl:((Zl.four v).take (g.length - 1)).length=g.length - 1:=by rw[List.length_take,show (Zl.four v).length=4 from rfl];omega
 refine c_aput (l:=(Zl.four v).take (g.length - 1)) ho (fun W h=>?_) hm hol (by omega) (fun h5 ov' w5 ho=>?_) (fun h5 w5 ho=>?_)
 ·have:=Sl.pre (cap:=4) (h:=g.length - 1) h (by show _≤4;omega);rw[htl] at this ⊢;exact this
 rotate_left
 ·exact k5 hv (by omega) w5 (ho.sub (.cons_cons _ (.cons_cons _ (.cons _ (List.Sublist.refl _)))))
 refine do_eq (show (mBuild 201 #[]).run prog w5=.ok (.value (.agg (gpC (gp0 []) 0).toArray)) w5 by kernel_rfl) |>.mpr ?_
 try rw[m_nilP]
 refine o_put 2 ho rfl (new:=gpC (gp0 []) 0) szGp (fun u hu=>?_) (by rw[gpC_len,hd];rfl) fun w6 ho=>?_
 ·rcases List.mem_append.1 hu with h|h
  ·exact bytesV_one' u h
  ·rw[List.mem_singleton.1 h];rfl
 exact kt hv (by omega) ov' w6 ho
end
theorem unfive1_plain:plainB prog 183=true:=by kernel_rfl
section
variable {w:World}{PK:PKT}{K:VWP}{S:Nat→Prop}{w0:World}{T:List Ent}
theorem c_aend {b mo gb:Nat}{ov:Value}{r out g:List UInt8}{M:Mem}(ho:OwnS S w0 w (Sk b mo ov out (gpE gb (gp0 g) g.length::.mem M::T)))(hpw:Pws M)(hm:mo≤1048576)(hol:out.length≤mo)(hg5:g.length≤5)(hr:r.length≤1000000000)
  (kt:∀ov' out' W,Ax.endG mo r g out=(out',0)→out'.length≤mo→OwnS S w0 W (Sk b mo ov' out' (.mem M::T))→K (.tuple #[]) W)
  (kf:∀e ov' out' W,Ax.endG mo r g out=([],e)→OwnS S w0 W (Sk b mo ov' out' (.mem M::T))→PK [upA e] W) :
  CallX prog 185 #[.string ⟨r.toArray⟩,.pointer (some ⟨gb,0,none⟩),.pointer (some ⟨b,0,none⟩)] w PK K:=by
 generalize hX:Ax.endG mo r g out=X at kt kf;unfold Ax.endG at hX;have drop:∀{ov out d n W},OwnS S w0 W (Sk b mo ov out (gpE gb d n::.mem M::T))→OwnS S w0 W (Sk b mo ov out (.mem M::T)):=fun {_ _ _ _ _} ho=>ho.sub (.cons_cons _ (.cons_cons _ (.cons _ (List.Sublist.refl _))));refine⟨S_ascii_end_ok ?_⟩;unfold S_ascii_end iN dx gtx etx cx;rw[show (Value.string ⟨#[]⟩)=.string ⟨([]:List UInt8).toArray⟩ from rfl,n_str];refine c_aneed (fun h=>?_) (fun h=>?_)
 rotate_left
 ·rw[if_pos (Decidable.not_not.1 (of_decide_eq_false h))] at hX;exact kf 4 ov out w hX.symm (drop ho)
 have h1:r≠[]:=of_decide_eq_true h;rw[if_neg h1] at hX;have hl:=List.length_pos_iff.2 h1;rw[s_ix Tryz.underlying9 (by decide) (get0 (i:=0) hl)];have hc:(((r.getD 0 0).toNat:Int)=62)↔r.getD 0 0=62:=⟨fun h=>UInt8.toNat_inj.1 (by rw[show (62:UInt8).toNat=62 from rfl];omega),fun h=>by rw[h];rfl⟩;have key:∀q:Bool,(q=true↔¬(r.getD 0 0≠62∨g.length=1))→CallX prog 179 #[.bool q,.int .i64 3] w (pk (Cont K PK)) fun t19 w=>
   DoX prog (mFA 201 (.pointer (some ⟨gb,0,none⟩)) 1) w (pk (Cont K PK)) fun t22 w=>
   DoX prog (mLoad 3 t22) w (pk (Cont K PK)) fun t23 w=>
   DoX prog (mBin .gtr 3 t23 (.int .i64 0)) w (pk (Cont K PK)) fun t24 w=>
   IfX t24 (CallX prog 184 #[.pointer (some ⟨gb,0,none⟩),.pointer (some ⟨b,0,none⟩)] w (pk (Cont K PK)) fun t27 w=>Cont K PK (.returned (.tuple #[])) w) (Cont K PK (.returned (.tuple #[])) w):=by
  intro q hq;refine c_aneed (fun h=>?_) (fun h=>?_)
  rotate_left
  ·rw[if_pos (Decidable.not_not.1 (fun k=>by rw[h] at hq;exact absurd (hq.2 k) (by decide)))] at hX;exact kf 3 ov out w hX.symm (drop ho)
  rw[if_neg (hq.1 h)] at hX;have hne:g.length≠1:=fun k=>(hq.1 h) (.inr k)
  try rw[m_nilP]
  rw[f_addr fo_gp1,gp_many ho 2 rfl (gp0_len hg5)];simp only[rs];by_cases h0:g.length=0
  ·rw[if_pos h0] at hX;simp only[show decide ((0:Int) < (g.length:Int))=false from decide_eq_false (by omega),i_f];exact kt ov out w hX.symm hol (drop ho)
  rw[if_neg h0] at hX;simp only[show decide ((0:Int) < (g.length:Int))=true from decide_eq_true (by omega),i_t];refine c_gput ho hpw hm hol (by omega) hg5 (fun h5 h6 ov' W ho=>?_) (fun h5 W ho=>?_) (fun h5 h6 W ho=>?_)
  ·rw[if_neg (by omega),if_neg (by omega)] at hX;exact kt ov' _ W hX.symm (by rw[List.length_append,List.length_take];omega) (drop ho)
  ·rw[if_pos h5] at hX;exact kf 3 ov out W hX.symm ho
  ·rw[if_neg (by omega),if_pos h6] at hX;exact kf 5 ov out W hX.symm ho
 simp only[rs];by_cases h62:r.getD 0 0=62
 ·simp only[decide_eq_true (hc.2 h62),rs]
  try rw[m_nilP]
  rw[f_addr fo_gp1,gp_many ho 2 rfl (gp0_len hg5)];simp only[rs];refine key _ ?_;rw[decide_eq_true_iff];constructor
  ·intro h k;rcases k with k|k
   ·exact k h62
   ·omega
  ·intro h;have:g.length≠1:=fun k=>h (.inr k);omega
 ·simp only[decide_eq_false (fun h=>h62 (hc.1 h)),rs];refine key false ?_;constructor
  ·intro h;cases h
  ·intro h;exact absurd (.inl h62) h
theorem c_unfive1 (s:List UInt8)(b mo:Nat){M:Mem}(hpw:Pws M)(hs:s.length≤1000000000)(hm:mo≤1048576)(ho:OwnS S w0 w (Sk b mo nilS [] (.mem M::T)))
  (kt:∀ov' out W,Ax.fiveG mo s [] []=(out,0)→out.length≤mo→OwnS S w0 W (Sk b mo ov' out (.mem M::T))→K (.tuple #[]) W) (kf:∀e ov' out W,Ax.fiveG mo s [] []=([],e)→OwnS S w0 W (Sk b mo ov' out (.mem M::T))→PK [upA e] W) :
  CallX prog 183 #[.string ⟨s.toArray⟩,.pointer (some ⟨b,0,none⟩)] w PK K:=by
 generalize hX:Ax.fiveG mo s [] []=X at kt kf;refine⟨S_ascii_Unfive_1_ok ?_⟩;unfold S_ascii_Unfive_1 iN dx;refine o_new (fun b=>.pointer (some ⟨b,0,none⟩)) (gpC (gp0 []) 0) 201 (fun _=>by kernel_rfl) ho fun gb w1 ho=>?_;have ho:OwnS S w0 w1 ([gpE gb (gp0 []) 0]++([skE b nilS mo,outR nilS []]++(.mem M::T))):=ho;have ho:=ho.front;rw[s_len Tryz.underlying9];refine loop (fun vs W=>∃(i:Nat) (g:List UInt8) (ov:Value) (out:List UInt8),vs=[.int .i64 (i:Int)]∧i≤s.length∧g.length < 5∧out.length≤mo∧Ax.fiveG mo (s.drop i) g out=X∧OwnS S w0 W (Sk b mo ov out (gpE gb (gp0 g) g.length::.mem M::T))) (fun vs _=>s.length - n0 vs) ⟨0,[],nilS,[],rfl,by omega,by simp,by simp,hX,ho⟩ ?_;clear ho hX;have drop:∀{ov out d n W},OwnS S w0 W (Sk b mo ov out (gpE gb d n::.mem M::T))→OwnS S w0 W (Sk b mo ov out (.mem M::T)):=fun {_ _ _ _ _} ho=>ho.sub (.cons_cons _ (.cons_cons _ (.cons _ (List.Sublist.refl _))));rintro vs w2 ⟨i,g,ov,out,rfl,hi,hg,hol,hX,ho⟩ _;simp only[S_ascii_Unfive_1_0,gd,rs,iN,dx,gtx,etx,cx];by_cases hlt:(i:Int) < (s.length:Int)
 case neg=>
  simp only[hlt,decide_false,i_f];rw[List.drop_eq_nil_of_le (by omega)] at hX;exact c_aneed (fun h=>by cases h) (fun _=>kf 4 ov out w2 hX.symm (drop ho))
 simp only[hlt,decide_true,i_t];have hi':i < s.length:=by omega
 rw[List.drop_eq_getElem_cons hi',Ax.fiveG] at hX;have hc:=List.getElem?_eq_getElem hi';generalize s[i]=c at hX hc;refine join fun J hJ=>?_;have next:∀(g':List UInt8) (ov':Value) (out':List UInt8) (W:World),g'.length < 5→out'.length≤mo→Ax.fiveG mo (s.drop (i+1)) g' out'=X→OwnS S w0 W (Sk b mo ov' out' (gpE gb (gp0 g') g'.length::.mem M::T))→J [] W:=by
  intro g' ov' out' W g1 g2 g3 ho;refine hJ _ _ fun _=>?_;simp only[S_ascii_Unfive_1_1,rs,iN,dx];rw[wrap64_id (by omega) (by omega)];exact nextX ⟨i+1,g',ov',out',rfl,by omega,g1,g2,g3,ho⟩ (by simp[n0,RowKit.intOf];omega)
 rw[s_ix Tryz.underlying9 (by omega) (by rw[Int.toNat_natCast];exact hc)];refine c_eq (white_ret c w2) ?_;by_cases hw:Oc.white c=true
 ·rw[if_pos hw] at hX;rw[hw,i_t];exact next g ov out w2 hg hol hX ho
 rw[if_neg hw] at hX;rw[Bool.eq_false_iff.2 hw,i_f];have hcl:=UInt8.toNat_lt c;have hsub:IntKind.u8.wrap ((c.toNat:Int) - 33)=((c - 33).toNat:Int):=by
  have:(c - 33).toNat=(c.toNat+223) % 256:=by rw[UInt8.toNat_sub];show (256 - 33+c.toNat) % 256=_;rw[Nat.add_comm]
  rw[this];unfold IntKind.wrap;simp[IntKind.bits,IntKind.signed];omega
 have rest:¬(c.toNat=122∧g.length=0)→IfX (.bool false) (DoX prog (mBuildS 53 4 #[(0,(.int .u8 0)),(1,(.int .u8 0)),(2,(.int .u8 0)),(3,(.int .u8 0))]) w2 (pk (Cont K PK)) fun t28 w=>
   CallX prog 178 #[.pointer (some ⟨b,0,none⟩),t28] w (pk (Cont K PK)) fun t29 w=>J [] w) (DoX prog (mBin .geq 5 (.int .u8 (c.toNat:Int)) (.int .u8 33)) w2 (pk (Cont K PK)) fun t32 w=>
 GDo t32 true (fun E=>E (.int .u8 (c.toNat:Int)) w) w fun t34 w=>
 GDo t32 true (fun E=>DoX prog (mBin .leq 5 t34 (.int .u8 117)) w (pk (Cont K PK)) E) w fun t35 w=>
 DoX prog (mPick t32 t35 (.bool false)) w (pk (Cont K PK)) fun t36 w=>
 IfX t36 (DoX prog (mFA 201 (.pointer (some ⟨gb,0,none⟩)) 1) w (pk (Cont K PK)) fun t37 w=>
 DoX prog (mLoad 3 t37) w (pk (Cont K PK)) fun t38 w=>
 DoX prog (mBin .sub 5 (.int .u8 (c.toNat:Int)) (.int .u8 33)) w (pk (Cont K PK)) fun t40 w=>
 DoX prog (mFA 201 (.pointer (some ⟨gb,0,none⟩)) 0) w (pk (Cont K PK)) fun t41 w=>
 DoX prog (mIA 199 t41 t38) w (pk (Cont K PK)) fun t42 w=>
 DoX prog (mStore 5 t42 t40) w (pk (Cont K PK)) fun _ w=>
 DoX prog (mFA 201 (.pointer (some ⟨gb,0,none⟩)) 1) w (pk (Cont K PK)) fun t43 w=>
 DoX prog (mLoad 3 t43) w (pk (Cont K PK)) fun t44 w=>
 DoX prog (mBin .add 3 t44 (.int .i64 1)) w (pk (Cont K PK)) fun t45 w=>
 DoX prog (mFA 201 (.pointer (some ⟨gb,0,none⟩)) 1) w (pk (Cont K PK)) fun t46 w=>
 DoX prog (mStore 3 t46 t45) w (pk (Cont K PK)) fun _ w=>
 DoX prog (mFA 201 (.pointer (some ⟨gb,0,none⟩)) 1) w (pk (Cont K PK)) fun t47 w=>
 DoX prog (mLoad 3 t47) w (pk (Cont K PK)) fun t48 w=>
 DoX prog (mEq .eql 3 (.tmp 48) (.const (.int .i64 5)) t48 (.int .i64 5)) w (pk (Cont K PK)) fun t49 w=>
 IfX t49 (CallX prog 184 #[.pointer (some ⟨gb,0,none⟩),.pointer (some ⟨b,0,none⟩)] w (pk (Cont K PK)) fun t51 w=>
 J [] w) (J [] w)) (DoX prog (mEq .eql 5 (.tmp 53) (.const (.int .u8 126)) (.int .u8 (c.toNat:Int)) (.int .u8 126)) w (pk (Cont K PK)) fun t54 w=>
 IfX t54 (DoX prog (mBin .add 3 (.int .i64 (i:Int)) (.int .i64 1)) w (pk (Cont K PK)) fun t57 w=>
 DoX prog (mSlice 9 (.string ⟨s.toArray⟩) (some t57) none none) w (pk (Cont K PK)) fun t58 w=>
 CallX prog 185 #[t58,.pointer (some ⟨gb,0,none⟩),.pointer (some ⟨b,0,none⟩)] w (pk (Cont K PK)) fun t60 w=>
 Cont K PK (.returned (.tuple #[])) w) (CallX prog 179 #[(.bool false),(.int .i64 3)] w (pk (Cont K PK)) fun t15 w=>
 J [] w))):=by
  intro hz;rw[if_neg hz] at hX;simp only[i_f,rs];have tail:¬(33≤c.toNat∧c.toNat≤117)→IfX (.bool (decide ((c.toNat:Int)=126))) (DoX prog (mBin .add 3 (.int .i64 (i:Int)) (.int .i64 1)) w2 (pk (Cont K PK)) fun t57 w=>
 DoX prog (mSlice 9 (.string ⟨s.toArray⟩) (some t57) none none) w (pk (Cont K PK)) fun t58 w=>
 CallX prog 185 #[t58,.pointer (some ⟨gb,0,none⟩),.pointer (some ⟨b,0,none⟩)] w (pk (Cont K PK)) fun t60 w=>
 Cont K PK (.returned (.tuple #[])) w) (CallX prog 179 #[(.bool false),(.int .i64 3)] w2 (pk (Cont K PK)) fun t15 w=>
 J [] w):=by
   intro hr;rw[if_neg hr] at hX;by_cases h126:c.toNat=126
   ·rw[if_pos h126] at hX;simp only[show decide ((c.toNat:Int)=126)=true from decide_eq_true (by omega),i_t,rs];rw[wrap64_id (by omega) (by omega),s_from Tryz.underlying9 (by omega) (by omega),show ((i:Int)+1).toNat=i+1 by omega];exact c_aend ho hpw hm hol (by omega) (by rw[List.length_drop];omega) (fun ov' out' W he hol' ho=>kt ov' out' W (hX.symm.trans he) hol' ho) (fun e ov' out' W he ho=>kf e ov' out' W (hX.symm.trans he) ho)
   ·rw[if_neg h126] at hX;simp only[show decide ((c.toNat:Int)=126)=false from decide_eq_false (by omega),i_f];exact c_aneed (fun h=>by cases h) (fun _=>kf 3 ov out w2 hX.symm (drop ho))
  by_cases h33:33≤c.toNat
  case neg=>
   simp only[show decide ((33:Int)≤(c.toNat:Int))=false from decide_eq_false (by omega),rs,i_f];have:=tail (fun h=>h33 h.1);simp only[rs] at this;exact this
  simp only[show decide ((33:Int)≤(c.toNat:Int))=true from decide_eq_true (by omega),rs];by_cases h117:c.toNat≤117
  case neg=>
   simp only[show decide ((c.toNat:Int)≤117)=false from decide_eq_false (by omega),rs,i_f];have:=tail (fun h=>h117 h.2);simp only[rs] at this;exact this
  simp only[show decide ((c.toNat:Int)≤117)=true from decide_eq_true (by omega),rs,i_t];rw[if_pos ⟨h33,h117⟩] at hX;rw[f_addr fo_gp1,gp_many ho 2 rfl (gp0_len (by omega))]
  try rw[b_sub]
  rw[hsub,f_addr fo_gp0];refine do_eq (r_gpia (by omega)) |>.mpr ?_;refine o_store 2 ho rfl (by kernel_rfl) rfl (by rw[gpC_len,gp0_len (by omega)];omega) fun w3 ho=>?_;rw[gpC_set (by rw[gp0_len (by omega)];omega)] at ho;have e1:(gp0 g).set g.length (c - 33)=gp0 (g++[c - 33]):=by
   unfold gp0;rw[List.set_append_right _ _ (Nat.le_refl _),Nat.sub_self,List.length_append,List.length_singleton,show 5 - g.length=(5 - (g.length+1))+1 by omega,List.replicate_succ,List.set_cons_zero,List.append_assoc];rfl
  rw[e1] at ho;have hl1:(g++[c - 33]).length=g.length+1:=by simp
  rw[←hl1] at hX;have hX2:(if (g++[c - 33]).length < 5 then Ax.fiveG mo (s.drop (i+1)) (g++[c - 33]) out else if 4294967296≤Ax.val (g++[c - 33]) then ([],3) else if mo < out.length+4 then ([],5) else Ax.fiveG mo (s.drop (i+1)) [] (out++Zl.four (Ax.val (g++[c - 33]))))=X:=hX;clear hX;have ho:OwnS S w0 w3 (Sk b mo ov out (gpE gb (gp0 (g++[c - 33])) g.length::.mem M::T)):=ho;generalize hg':g++[c - 33]=g' at hX2 ho hl1;rw[f_addr fo_gp1,gp_many ho 2 rfl (gp0_len (by omega))]
  try simp only[rs]
  rw[wrap64_id (by omega) (by omega),f_addr fo_gp1,show (g.length:Int)+1=(g'.length:Int) by omega];refine o_store 2 ho rfl (by kernel_rfl) rfl (by rw[gpC_len,gp0_len (by omega)];omega) fun w4 ho=>?_;rw[Nat.zero_add,gpC_setN (gp0_len (by omega))] at ho;have ho:OwnS S w0 w4 (Sk b mo ov out (gpE gb (gp0 g') g'.length::.mem M::T)):=ho;rw[f_addr fo_gp1,gp_many ho 2 rfl (gp0_len (by omega))]
  try simp only[rs]
  by_cases h5:g'.length < 5
  ·rw[if_pos h5] at hX2;simp only[show decide ((g'.length:Int)=5)=false from decide_eq_false (by omega),i_f];exact next g' ov out w4 h5 hol hX2 ho
  rw[if_neg h5] at hX2;simp only[show decide ((g'.length:Int)=5)=true from decide_eq_true (by omega),i_t];refine c_gput ho hpw hm hol (by omega) (by omega) (fun k5 k6 ov' W ho=>?_) (fun k5 W ho=>?_) (fun k5 k6 W ho=>?_)
  ·rw[if_neg (by omega),if_neg (by omega)] at hX2;rw[show g'.length - 1=4 by omega] at ho;exact next [] ov' _ W (by decide) (by rw[List.length_append];show _+4≤_;omega) hX2 ho
  ·rw[if_pos k5] at hX2;exact kf 3 ov out W hX2.symm ho
  ·rw[if_neg (by omega),if_pos (by omega)] at hX2;exact kf 5 ov out W hX2.symm ho
 try simp only[rs]
 by_cases hz:c.toNat=122
 case neg=>
  simp only[show decide ((c.toNat:Int)=122)=false from decide_eq_false (by omega),rs];have:=rest (fun h=>hz h.1);simp only[rs] at this;exact this
 simp only[show decide ((c.toNat:Int)=122)=true from decide_eq_true (by omega),rs];rw[f_addr fo_gp1,gp_many ho 2 rfl (gp0_len (by omega))];simp only[rs];by_cases hg0:g.length=0
 case neg=>
  simp only[show decide ((g.length:Int)=0)=false from decide_eq_false (by omega),rs];have:=rest (fun h=>hg0 h.2);simp only[rs] at this;exact this
 rw[if_pos ⟨hz,hg0⟩] at hX;simp only[show decide ((g.length:Int)=0)=true from decide_eq_true (by omega),i_t];have hgn:g=[]:=List.eq_nil_of_length_eq_zero hg0;subst hgn;refine o_new (fun b=>.slice (some ⟨b,0,none⟩) 4 4) (bytesV [0,0,0,0]) 5 (fun _=>by kernel_rfl) ho fun b8 w3 ho=>?_;refine c_aput (l:=[0,0,0,0]) ho (fun W h=>?_) hm hol (by decide) (fun h5 ov' W ho=>?_) (fun h5 W ho=>?_)
 ·exact Sl.pre (l:=[0,0,0,0]) (h:=4) h (by decide)
 ·rw[if_neg (by simp at h5;omega)] at hX;exact next [] ov' _ W (by decide) (by simpa using h5) hX ho
 ·rw[if_pos (by simp at h5;omega)] at hX;exact kf 5 ov out W hX.symm (drop ho)
end
theorem aunfive_ret (s:List UInt8)(most:Int)(M:Mem)(w:World)(hpw:Pws M)(hs:s.length≤1000000000)(hM:M.has w):RetM prog 118 #[.string ⟨s.toArray⟩,.int .i64 most] M w (fun v _=>v=zlT (Ax.unfive s most)∧(Ax.unfive s most).1.length≤1048576):=by
 refine retM_of hM fun K hK=>S_ascii_Unfive_ok ?_;unfold S_ascii_Unfive dx cx;refine c_mem (OwnS.memS hM) 0 rfl (unpacked_ret _ unfive1_plain s most _ M w hM fun b mo hm ho kt kf=>c_unfive1 s b mo hpw hs hm ho kt kf) ?_;rintro _ N w1 g1 ⟨rfl,hl⟩ ho;simp only[zlT,ex];exact hK _ _ N _ 0 ho rfl g1 ⟨rfl,hl⟩
end
section
open Eng Go.RowKit
def Ax.hv (g:List UInt8):Nat→Nat
|0=>0
|i+1=>Ax.hv g i*85+Ax.dg g i
theorem Ax.hv_5 (g:List UInt8):Ax.hv g 5=Ax.val g:=by
 simp only[Ax.hv,Ax.val];omega
theorem Ax.hv_le (g:List UInt8):∀i,i≤5→Ax.hv g i≤13572000000
|0,_=>Nat.zero_le _
|1,_=>by have:=Ax.dg_lt g 0;simp only[Ax.hv];omega
|2,_=>by have:=Ax.dg_lt g 0;have:=Ax.dg_lt g 1;simp only[Ax.hv];omega
|3,_=>by have:=Ax.dg_lt g 0;have:=Ax.dg_lt g 1;have:=Ax.dg_lt g 2;simp only[Ax.hv];omega
|4,_=>by have:=Ax.dg_lt g 0;have:=Ax.dg_lt g 1;have:=Ax.dg_lt g 2;have:=Ax.dg_lt g 3;simp only[Ax.hv];omega
|5,_=>by have:=Ax.dg_lt g 0;have:=Ax.dg_lt g 1;have:=Ax.dg_lt g 2;have:=Ax.dg_lt g 3;have:=Ax.dg_lt g 4;simp only[Ax.hv];omega
|n+6,h=>by omega
theorem rvalue14_ret (g:List UInt8)(v:Value)(w:World)(hl:g.length≤1000000000)(h:Sl w v 1 g.length (bytesV g)):Ret prog 126 #[v] w (fun v w'=>v=.int .u64 (Ax.val g:Int)∧w=w'):=by
 refine ret_of fun K hK=>S_foliantref14_value_ok ?_;unfold S_foliantref14_value iN;refine loop (fun vs W=>∃i:Nat,vs=[.int .u64 ((Ax.hv g i:Nat):Int),.int .i64 (i:Int)]∧i≤5∧W=w) (fun vs _=>5 - n1 vs) ⟨0,rfl,by omega,rfl⟩ ?_;rintro vs W ⟨i,rfl,hi,rfl⟩ _;simp only[S_foliantref14_value_0,gd,rs,iN,dx];by_cases hlt:(i:Int) < 5
 case neg=>
  simp only[hlt,decide_false,i_f];have:i=5:=by omega
  subst this;rw[Ax.hv_5];exact hK _ _ ⟨rfl,rfl⟩
 simp only[hlt,decide_true,i_t];have h1:=Ax.hv_le g i (by omega);have h2:=Ax.hv_le g (i+1) (by omega);have h3:Ax.hv g (i+1)=Ax.hv g i*85+Ax.dg g i:=rfl;refine join fun J hJ=>?_;have next:J [.int .u64 ((Ax.hv g (i+1):Nat):Int)] W:=by
  refine hJ _ _ fun _=>?_;simp only[S_foliantref14_value_1,gd,rs,iN,dx];rw[wrap64_id (by omega) (by omega)];exact nextX ⟨i+1,rfl,by omega,rfl⟩ (by simp[n1,RowKit.intOf];omega)
 try simp only[rs]
 rw[show ((Ax.hv g i:Nat):Int)*85=((Ax.hv g i*85:Nat):Int) by push_cast;rfl,wrapU6 (by omega)];rw[do_eq (run_sllen h)]
 try simp only[rs]
 by_cases hg:i < g.length
 ·simp only[show decide ((i:Int) < (g.length:Int))=true from decide_eq_true (by omega),i_t];obtain⟨b,off,hia,hcell⟩:=bytes_at h hg;rw[do_eq (hia W),l_cell nU8l hcell];refine do_eq (run_c_int (by kernel_rfl) Tryz.underlying147) |>.mpr ?_;have e1:g[i].toNat=Ax.dg g i:=by unfold Ax.dg;rw[List.getD_eq_getElem?_getD,List.getElem?_eq_getElem hg,Option.getD_some]
  have:=Ax.dg_lt g i;rw[e1,wrapU6 (by omega)]
  try simp only[rs]
  rw[show ((Ax.hv g i*85:Nat):Int)+((Ax.dg g i:Nat):Int)=((Ax.hv g (i+1):Nat):Int) by rw[h3];push_cast;rfl,wrapU6 (by omega)];exact next
 ·simp only[show decide ((i:Int) < (g.length:Int))=false from decide_eq_false (by omega),i_f]
  try simp only[rs]
  have e1:Ax.dg g i=84:=by unfold Ax.dg;rw[List.getD_eq_getElem?_getD,List.getElem?_eq_none (by omega)];rfl
  rw[e1] at h3;rw[show ((Ax.hv g i*85:Nat):Int)+84=((Ax.hv g (i+1):Nat):Int) by rw[h3];push_cast;rfl,wrapU6 (by omega)];exact next
section
variable {w:World}{PK:PKT}{K:VWP}{S:Nat→Prop}{w0:World}{L T:List Ent}
theorem c_rbytes14 {v m:Nat}(ho:OwnS S w0 w L)(hm:m≤4)(hv:v < 18446744073709551616)(k:∀b w',OwnS S w0 w' (.cells b (bytesV (Zl.four v)) 5::L)→K (.slice (some ⟨b,0,none⟩) m 4) w'):CallX prog 127 #[.int .u64 (v:Int),.int .i64 (m:Int)] w PK K:=by
 refine⟨S_foliantref14_bytes_ok ?_⟩;unfold S_foliantref14_bytes dx;have hsh:∀k:Nat,k≤64→∀{W:World} {PK:PKT} {K:VWP},DoX prog (mBin .shr 147 (.int .u64 (v:Int)) (.int .u64 (k:Int))) W PK K=K (.int .u64 ((v / 2 ^ k:Nat):Int)) W:=by
  intro k hk W PK K;rw[b_shr (by omega),shr64 hk]
 rw[show (24:Int)=((24:Nat):Int) from rfl,hsh 24 (by omega)];refine do_eq (run_c_int (by kernel_rfl) Tryz.underlying5) |>.mpr ?_;rw[wrap8,show (16:Int)=((16:Nat):Int) from rfl,hsh 16 (by omega)];refine do_eq (run_c_int (by kernel_rfl) Tryz.underlying5) |>.mpr ?_;rw[wrap8,show (8:Int)=((8:Nat):Int) from rfl,hsh 8 (by omega)];refine do_eq (run_c_int (by kernel_rfl) Tryz.underlying5) |>.mpr ?_;rw[wrap8];refine do_eq (run_c_int (by kernel_rfl) Tryz.underlying5) |>.mpr ?_;rw[wrap8];refine o_new (fun b=>.slice (some ⟨b,0,none⟩) 4 4) (bytesV (Zl.four v)) 5 (fun _=>by kernel_rfl) ho fun b8 w3 ho=>?_;have e:∀W:World,(mSlice 53 (.slice (some ⟨b8,0,none⟩) 4 4) none (some (.int .i64 (m:Int))) none).run prog W=.ok (.value (.slice (some ⟨b8,0,none⟩) m 4)) W:=fun W=>by
  rcases (by omega:m=0∨m=1∨m=2∨m=3∨m=4) with rfl|rfl|rfl|rfl|rfl<;>kernel_rfl
 refine do_eq (e w3) |>.mpr ?_;exact k b8 w3 ho
theorem c_put14 {v m:Nat}{ov:Value}{out:List UInt8}(ho:OwnS S w0 w (outR ov out::T))(hl:out.length≤1000000000)(hm:m≤4)(hv:v < 18446744073709551616)(k:∀ov' W,OwnS S w0 W (outR ov' (out++(Zl.four v).take m)::T)→K ov' W) :
  CallX prog 127 #[.int .u64 (v:Int),.int .i64 (m:Int)] w PK fun t w=>DoX prog (mB .append #[53,53] 53 #[false,false] #[ov,t]) w PK K:=by
 refine c_rbytes14 ho hm hv fun b w1 ho=>?_;have htl:((Zl.four v).take m).length=m:=by rw[List.length_take,show (Zl.four v).length=4 from rfl];omega
 have hsl:Sl w1 (.slice (some ⟨b,0,none⟩) m 4) 1 ((Zl.four v).take m).length (bytesV ((Zl.four v).take m)):=Sl.pre (ho.at_ 0 rfl) (by show m≤4;omega);refine o_appendU 1 Tryz.underlying53 elU8 (by decide) ho rfl hsl bytesV_one' (by omega) (by omega) fun v' w10 ho=>k v' w10 ?_;rw[outR_app];exact ho.tail
end
def Ax.lastG (mo:Nat)(g out:List UInt8):List UInt8×Int:=
 if g.length=0 then (out,0)
 else if g.length=1 then ([],3)
 else if 4294967296≤Ax.val g then ([],3)
 else if mo < out.length+(g.length - 1) then ([],5)
 else (out++(Zl.four (Ax.val g)).take (g.length - 1),0)
theorem rlast14_ret (mo:Nat)(g out:List UInt8)(gv ov:Value)(w:World)(hg:g.length≤5)(hol:out.length≤mo)(hm:mo≤1048576)(hgs:Sl w gv 1 g.length (bytesV g)){T:List Ent}{S:Nat→Prop}{w0:World}{PK:PKT}{K:VWP}(ho:OwnS S w0 w (outR ov out::T))
  (k:∀W ov' out',OwnS S w0 W (outR ov' out'::T)→K (zlT (Ax.lastG mo g out)) W):CallX prog 125 #[gv,ov,.int .i64 (mo:Int)] w PK K:=by
 generalize hX:Ax.lastG mo g out=X at k;unfold Ax.lastG at hX;refine⟨S_foliantref14_last_ok ?_⟩;unfold S_foliantref14_last iN dx gfx efx cx;have hlen:∀{PK:PKT} {K:VWP},DoX prog (mB .len #[53] 3 #[false] #[gv]) w PK K=K (.int .i64 (g.length:Int)) w:=fun {_ _}=>do_eq (run_sllen hgs);rw[hlen];simp only[rs];by_cases h0:g.length=0
 ·rw[if_pos h0] at hX;simp only[show decide ((g.length:Int)=0)=true from decide_eq_true (by omega),i_t];rw[c_bytes Tryz.underlying53 Tryz.underlying5 Tryz.underlying9 (out_sl (ho.at_ 0 rfl))];rw[←hX] at k;exact k _ _ _ ho
 rw[if_neg h0] at hX;simp only[show decide ((g.length:Int)=0)=false from decide_eq_false (by omega),i_f];refine c_eq (rvalue14_ret g gv w (by omega) hgs) ?_;rw[hlen];simp only[rs];have hv:=Ax.hv_le g 5 (by omega);rw[Ax.hv_5] at hv;have bad:X=([],3)→IfX (.bool true) (Cont K PK (.returned (.tuple #[(.string ⟨#[]⟩),(.int .i64 3)])) w) (Cont K PK (.returned (.tuple #[(.string ⟨#[]⟩),(.int .i64 3)])) w):=by
  intro hx;rw[i_t];rw[hx] at k;exact k _ _ _ ho
 by_cases h1:g.length=1
 ·rw[if_pos h1] at hX;simp only[show decide ((g.length:Int)=1)=true from decide_eq_true (by omega),rs,i_t];have:=bad hX.symm;rw[i_t] at this;exact this
 rw[if_neg h1] at hX;simp only[show decide ((g.length:Int)=1)=false from decide_eq_false (by omega),rs];by_cases h2:4294967296≤Ax.val g
 ·rw[if_pos h2] at hX;simp only[show decide ((4294967295:Int) < (Ax.val g:Int))=true from decide_eq_true (by omega),rs,i_t];have:=bad hX.symm;rw[i_t] at this;exact this
 rw[if_neg h2] at hX;simp only[show decide ((4294967295:Int) < (Ax.val g:Int))=false from decide_eq_false (by omega),rs,i_f];rw[hlen]
 try simp only[rs]
 rw[wrap64_id (n:=(g.length:Int) - 1) (by omega) (by omega),o_len8 0 ho rfl]
 try simp only[rs]
 rw[wrap64_id (n:=(mo:Int) - (out.length:Int)) (by omega) (by omega)];by_cases h3:mo < out.length+(g.length - 1)
 ·rw[if_pos h3] at hX;simp only[show decide ((mo:Int) - (out.length:Int) < (g.length:Int) - 1)=true from decide_eq_true (by omega),i_t];rw[←hX] at k;exact k _ _ _ ho
 rw[if_neg h3] at hX;simp only[show decide ((mo:Int) - (out.length:Int) < (g.length:Int) - 1)=false from decide_eq_false (by omega),i_f];rw[hlen]
 try simp only[rs]
 rw[wrap64_id (n:=(g.length:Int) - 1) (by omega) (by omega),show (g.length:Int) - 1=((g.length - 1:Nat):Int) by omega];refine c_put14 ho (by omega) (by omega) (by omega) fun ov' W ho=>?_;rw[c_bytes Tryz.underlying53 Tryz.underlying5 Tryz.underlying9 (out_sl (ho.at_ 0 rfl))];rw[←hX] at k;exact k _ _ _ ho
theorem Ax.end_last {mo:Nat}{r g out:List UInt8}(h:r≠[])(h62:r.getD 0 0=62):Ax.endG mo r g out=Ax.lastG mo g out:=by
 unfold Ax.endG Ax.lastG;rw[if_neg h];by_cases h1:g.length=1
 ·rw[if_pos (.inr h1),if_neg (by omega),if_pos h1]
 ·rw[if_neg (fun k=>k.elim (fun k=>k h62) h1),if_neg h1]
theorem runfive14_ret (s:List UInt8)(most:Int)(w:World)(hs:s.length≤1000000000):Ret prog 56 #[.string ⟨s.toArray⟩,.int .i64 most] w (fun v w'=>v=zlT (Ax.unfive s most)∧Below w.heap.size w w'):=by
 refine ret_of fun K hK=>S_foliantref14_Unfive_ok ?_;generalize hX:Ax.unfive s most=X at hK;unfold Ax.unfive Ax.within at hX;unfold S_foliantref14_Unfive iN dx
 try simp only[rs]
 by_cases h0:most < 0
 ·rw[if_pos h0] at hX;simp only[h0,decide_true,i_t];exact hK _ _ ⟨by rw[←hX];rfl,Below.refl _ _⟩
 rw[if_neg h0] at hX;simp only[h0,decide_false,i_f];rw[m_min,show min most 1048576=((min most.toNat 1048576:Nat):Int) by omega];have hm:min most.toNat 1048576≤1048576:=Nat.min_le_right _ _;generalize min most.toNat 1048576=mo at hX hm;have ho:=((Own.start w).nilU 5 1).nilU 5 1;refine loop (fun vs W=>∃(i:Nat) (g:List UInt8) (gv ov:Value) (out:List UInt8),vs=[ov,gv,.int .i64 (i:Int)]∧i≤s.length∧g.length < 5∧out.length≤mo∧Ax.fiveG mo (s.drop i) g out=X∧OwnS NoB w W [outR ov out,outR gv g]) (fun vs _=>s.length - n2 vs) ⟨0,[],nilS,nilS,[],rfl,by omega,by simp,by simp,hX,ho⟩ ?_;clear hX ho;rintro vs w2 ⟨i,g,gv,ov,out,rfl,hi,hg,hol,hX,ho⟩ _;simp only[S_foliantref14_Unfive_0,gd,iN,dx,gtx,gfx,etx,efx,cx];rw[s_len Tryz.underlying9]
 try simp only[rs]
 by_cases hlt:(i:Int) < (s.length:Int)
 case neg=>
  simp only[hlt,decide_false,i_f];rw[List.drop_eq_nil_of_le (by omega)] at hX;exact hK _ _ ⟨by rw[←hX];rfl,ho.done⟩
 simp only[hlt,decide_true,i_t];have hi':i < s.length:=by omega
 rw[List.drop_eq_getElem_cons hi',Ax.fiveG] at hX;have hc:=List.getElem?_eq_getElem hi';generalize s[i]=c at hX hc;refine join fun J hJ=>?_;have next:∀(g':List UInt8) (gv' ov':Value) (out':List UInt8) (W:World),g'.length < 5→out'.length≤mo→Ax.fiveG mo (s.drop (i+1)) g' out'=X→OwnS NoB w W [outR ov' out',outR gv' g']→J [ov',gv'] W:=by
  intro g' gv' ov' out' W g1 g2 g3 ho;refine hJ _ _ fun _=>?_;simp only[S_foliantref14_Unfive_2,gd,rs,iN,dx];rw[wrap64_id (by omega) (by omega)];exact nextX ⟨i+1,g',gv',ov',out',rfl,by omega,g1,g2,g3,ho⟩ (by simp[n2,RowKit.intOf];omega)
 rw[s_ix Tryz.underlying9 (by omega) (by rw[Int.toNat_natCast];exact hc)];refine c_eq (rwhite_ret c w2) ?_;by_cases hw:Oc.white c=true
 ·rw[if_pos hw] at hX;rw[hw,i_t];exact next g gv ov out w2 hg hol hX ho
 rw[if_neg hw] at hX;rw[Bool.eq_false_iff.2 hw,i_f];have hcl:=UInt8.toNat_lt c
 try simp only[rs]
 by_cases h126:c.toNat=126
 ·rw[if_neg (by omega),if_neg (by omega),if_pos h126] at hX;simp only[show decide ((c.toNat:Int)=126)=true from decide_eq_true (by omega),i_t,rs];rw[wrap64_id (by omega) (by omega),s_len Tryz.underlying9]
  try simp only[rs]
  by_cases he:i+1=s.length
  ·simp only[show decide ((i:Int)+1=(s.length:Int))=true from decide_eq_true (by omega),i_t];rw[List.drop_eq_nil_of_le (by omega)] at hX;exact hK _ _ ⟨by rw[←hX];rfl,ho.done⟩
  simp only[show decide ((i:Int)+1=(s.length:Int))=false from decide_eq_false (by omega),i_f];have hi2:i+1 < s.length:=by omega
  have hne:s.drop (i+1)≠[]:=by rw[List.drop_eq_getElem_cons hi2];exact List.cons_ne_nil _ _
  have hg0:(s.drop (i+1)).getD 0 0=s[i+1]:=by rw[List.drop_eq_getElem_cons hi2];rfl
  have hd:=List.getElem?_eq_getElem hi2;generalize s[i+1]=d at hd hg0
  try rw[wrap64_id (by omega) (by omega)]
  rw[s_ix (c:=d) Tryz.underlying9 (by omega) (by rw[show ((i:Int)+1).toNat=i+1 by omega];exact hd)]
  try simp only[rs]
  by_cases h62:d=62
  ·simp only[show decide ((d.toNat:Int)≠62)=false from decide_eq_false (by rw[h62];decide),i_f];rw[Ax.end_last hne (hg0.trans h62)] at hX;refine rlast14_ret mo g out gv ov w2 (by omega) hol hm (out_sl (ho.at_ 1 rfl)) ho fun W ov' out' ho=>?_;simp only[zlT,ex];exact hK _ _ ⟨by rw[←hX];rfl,ho.done⟩
  ·simp only[show decide ((d.toNat:Int)≠62)=true from decide_eq_true (fun h=>h62 (UInt8.toNat_inj.1 (by rw[show (62:UInt8).toNat=62 from rfl];omega))),i_t];unfold Ax.endG at hX;rw[if_neg hne,if_pos (.inl (by rw[hg0];exact h62))] at hX;exact hK _ _ ⟨by rw[←hX];rfl,ho.done⟩
 simp only[show decide ((c.toNat:Int)=126)=false from decide_eq_false (by omega),i_f]
 try simp only[rs]
 -- a full group,or four zero bytes
 have full:∀(v:Nat) (gv':Value) (W:World) (g':List UInt8),v < 13572000001→(if 4294967296≤v then ([],3) else if mo < out.length+4 then ([],5) else Ax.fiveG mo (s.drop (i+1)) [] (out++Zl.four v))=X→OwnS NoB w W [outR ov out,outR gv' g']→S_foliantref14_Unfive_1 (.int .i64 (mo:Int)) ov (.int .u64 (v:Int)) W J (fun e w'=>K e w'):=by
  intro v gv' W g' hv hX ho;unfold S_foliantref14_Unfive_1 iN dx cx
  try simp only[rs]
  by_cases h1:4294967296≤v
  ·rw[if_pos h1] at hX;simp only[show decide ((4294967295:Int) < (v:Int))=true from decide_eq_true (by omega),i_t];exact hK _ _ ⟨by rw[←hX];rfl,ho.done⟩
  rw[if_neg h1] at hX;simp only[show decide ((4294967295:Int) < (v:Int))=false from decide_eq_false (by omega),i_f];rw[o_len8 0 ho rfl]
  try simp only[rs]
  rw[wrap64_id (by omega) (by omega)];by_cases h2:mo < out.length+4
  ·rw[if_pos h2] at hX;simp only[show decide ((mo:Int) - (out.length:Int) < 4)=true from decide_eq_true (by omega),i_t];exact hK _ _ ⟨by rw[←hX];rfl,ho.done⟩
  rw[if_neg h2] at hX;simp only[show decide ((mo:Int) - (out.length:Int) < 4)=false from decide_eq_false (by omega),i_f];rw[show (4:Int)=((4:Nat):Int) from rfl];refine c_put14 ho (by omega) (by omega) (by omega) fun ov' W ho=>?_;rw[List.take_of_length_le (show (Zl.four v).length≤4 from Nat.le_refl 4)] at ho;have ho:=ho.sub (L':=[outR ov' (out++Zl.four v)]) (.cons_cons _ (.cons _ (List.Sublist.refl _)));have ho:=(OwnS.nilU ho 5 1).swap;exact next [] nilS ov' _ W (by decide) (by rw[List.length_append];show _+4≤_;omega) hX ho
 by_cases hz:c.toNat=122
 ·have e1:decide ((c.toNat:Int)≠122)=false:=decide_eq_false (by omega);have e2:decide ((c.toNat:Int)=122)=true:=decide_eq_true (by omega);simp only[e1,e2,rs,g_un];rw[o_len8 1 ho rfl];simp only[rs];by_cases hg0:g.length=0
  ·rw[if_pos ⟨hz,hg0⟩] at hX;simp only[show decide ((0:Int) < (g.length:Int))=false from decide_eq_false (by omega),i_f];refine join fun J3 hJ3=>?_
   try simp only[e1,rs,i_f]
   refine hJ3 _ _ fun _=>?_;exact full 0 gv w2 g (by decide) (by rw[if_neg (by decide)];exact hX) ho
  ·rw[if_neg (fun h=>hg0 h.2),if_neg (by omega),if_neg h126] at hX;simp only[show decide ((0:Int) < (g.length:Int))=true from decide_eq_true (by omega),i_t];exact hK _ _ ⟨by rw[←hX];rfl,ho.done⟩
 rw[if_neg (fun h=>hz h.1)] at hX;have e1:decide ((c.toNat:Int)≠122)=true:=decide_eq_true (by omega);have e2:decide ((c.toNat:Int)=122)=false:=decide_eq_false (by omega);simp only[e1,e2,rs];by_cases hr:33≤c.toNat∧c.toNat≤117
 case neg=>
  rw[if_neg hr,if_neg h126] at hX;by_cases h33:c.toNat < 33
  ·simp only[show decide ((c.toNat:Int) < 33)=true from decide_eq_true (by omega),e1,e2,rs,i_t,g_un];exact hK _ _ ⟨by rw[←hX];rfl,ho.done⟩
  ·simp only[show decide ((c.toNat:Int) < 33)=false from decide_eq_false (by omega),show decide ((117:Int) < (c.toNat:Int))=true from decide_eq_true (by omega),e1,e2,rs,i_t,g_un];exact hK _ _ ⟨by rw[←hX];rfl,ho.done⟩
 rw[if_pos hr] at hX;simp only[show decide ((c.toNat:Int) < 33)=false from decide_eq_false (by omega),show decide ((117:Int) < (c.toNat:Int))=false from decide_eq_false (by omega),e1,e2,rs,i_f,g_un];refine join fun J3 hJ3=>?_
 try simp only[e1,rs,i_t]
 have hsub:IntKind.u8.wrap ((c.toNat:Int) - 33)=((c - 33).toNat:Int):=by
  have:(c - 33).toNat=(c.toNat+223) % 256:=by rw[UInt8.toNat_sub];show (256 - 33+c.toNat) % 256=_;rw[Nat.add_comm]
  rw[this];unfold IntKind.wrap;simp[IntKind.bits,IntKind.signed];omega
 rw[hsub];refine o_put1 _ ho.swap (by omega) fun gv' W ho=>?_;have hl1:(g++[c - 33]).length=g.length+1:=by simp
 rw[←hl1] at hX;generalize g++[c - 33]=g' at hX ho hl1;have ho:=ho.swap;rw[o_len8 1 ho rfl]
 try simp only[rs]
 by_cases h5:g'.length < 5
 ·rw[if_pos h5] at hX;simp only[show decide ((g'.length:Int) < 5)=true from decide_eq_true (by omega),i_t];exact next g' gv' ov out W h5 hol hX ho
 rw[if_neg h5] at hX;simp only[show decide ((g'.length:Int) < 5)=false from decide_eq_false (by omega),i_f];refine c_eq (rvalue14_ret g' gv' W (by omega) (out_sl (ho.at_ 1 rfl))) ?_;refine hJ3 _ _ fun _=>?_;have hv:=Ax.hv_le g' 5 (by omega);rw[Ax.hv_5] at hv;exact full _ gv' W g' (by omega) hX ho
end
section
open Eng
def S_filter_must(t0 t1 w)(K:KT):=
 dx (mUn .not t0) w K fun t5 w=>IfX t5 (dx (mBuild 107 #[(0,t1)]) w K fun t7 w=>dx (mIface 107 t7) w K fun t8 w=>dx (mPanic t8) w K fun _ w=>K (.returned (.tuple #[])) w) (K (.returned (.tuple #[])) w)
theorem S_filter_must_ok{t0 t1 w K}(h:S_filter_must t0 t1 w K):Calls prog 78 #[t0,t1] w K:=cw Tryz.func78 rfl rfl (by kernel_rfl) h
def S_filter_listed_1(t6 t25 t26 t27 w)(N2:JT)(K:KT):=
 dx (mBin .lss 3 t27 t26) w K fun t28 w=>IfX t28 (dx (mIA 23 t25 t27) w K fun t29 w=>dx (mLoad 25 t29) w K fun t30 w=>dx (mAlloc 25) w K fun t8 w=>dx (mStore 25 t8 t30) w K fun _ w=>dx (mFA 25 t8 0) w K fun t31 w=>dx (mLoad 3 t31) w K fun t32 w=>dx (mEq .eql 3 (.tmp 32) (.const (iN 5)) t32 (iN 5)) w K fun t33 w=>cx 78 #[t33,(iN 10)] w K fun t34 w=>dx (mFA 25 t8 3) w K fun t36 w=>dx (mLoad 9 t36) w K fun t37 w=>dx (mBuildS 22 1 #[(0,t37)]) w K fun t38 w=>dx (mB .append #[22,22] 22 #[false,false] #[t6,t38]) w K fun t39 w=>dx (mBin .add 3 t27 (iN 1)) w K fun t40 w=>N2 [t39,t40] w) (K (.returned t6) w)
def S_filter_listed_0(t5 w)(K:KT):=
 dx (mB .len #[23] 3 #[false] #[t5]) w K fun t26 w=>LoopX [(.slice none 0 0),(iN 0)] w (fun vs2 w N2=>∀_:Sg,S_filter_listed_1 (vs2.getD 0 undef) t5 t26 (vs2.getD 1 undef) w N2 K)
def S_filter_listed(t0 w)(K:KT):=
 dx (mBox 25 t0) w K fun t1 w=>dx (mLoad 25 t1) w K fun t10 w=>cx 146 #[t10,(.string ⟨#[70,105,108,116,101,114]⟩)] w K fun t11 w=>dx (mExt t11 0) w K fun t12 w=>dx (mExt t11 1) w K fun t13 w=>dx (mAlloc 25) w K fun t3 w=>dx (mStore 25 t3 t12) w K fun _ w=>dx (mLoad 25 t3) w K fun t14 w=>dx (mBuildS 23 1 #[(0,t14)]) w K fun t15 w=>JoinX (fun J1=>dx (mUn .not t13) w K fun t18 w=>IfX t18 (K (.returned (.slice none 0 0)) w) (dx (mFA 25 t3 0) w K fun t20 w=>dx (mLoad 3 t20) w K fun t21 w=>dx (mEq .eql 3 (.tmp 21) (.const (iN 6)) t21 (iN 6)) w K fun t22 w=>IfX t22 (dx (mFA 25 t3 5) w K fun t23 w=>dx (mLoad 23 t23) w K fun t24 w=>J1 [t24] w) (J1 [t15] w))) (fun vs1 w=>∀_:Sg,S_filter_listed_0 (vs1.getD 0 undef) w K)
theorem S_filter_listed_eq (t0:Value)(w:World)(K:Ending→World→Prop):wpX prog 42 [(7,[5])] [(9,[6,27])] none (bodyOf Tryz.f79) (topQ prog [.tmp 2] K) (startX [t0]) [] w=S_filter_listed t0 w K:=by kernel_rfl
theorem S_filter_listed_ok {t0:Value}{w:World}{K:Ending→World→Prop}(h:S_filter_listed t0 w K):Calls prog 79 #[t0] w K:=
 calls_of_wpX Tryz.func79 rfl rfl rfl rfl (Eq.mpr (S_filter_listed_eq t0 w K) h)
def S_filter_parms_3(t1 t8 w)(N4:JT)(K:KT):=
 dx (mB .len #[40] 3 #[false] #[t8]) w K fun t58 w=>dx (mBin .lss 3 t58 t1) w K fun t60 w=>IfX t60 (cx 135 #[] w K fun t62 w=>dx (mBuildS 40 1 #[(0,t62)]) w K fun t63 w=>dx (mB .append #[40,40] 40 #[false,false] #[t8,t63]) w K fun t64 w=>N4 [t64] w) (K (.returned t8) w)
def S_filter_parms_2(t1 t8 t47 t48 t49 w)(N3:JT)(K:KT):=
 dx (mBin .lss 3 t49 t48) w K fun t50 w=>IfX t50 (dx (mIA 23 t47 t49) w K fun t51 w=>dx (mLoad 25 t51) w K fun t52 w=>dx (mAlloc 25) w K fun t12 w=>dx (mStore 25 t12 t52) w K fun _ w=>dx (mLoad 25 t12) w K fun t53 w=>cx 148 #[t53] w K fun t54 w=>cx 78 #[t54,(iN 1)] w K fun t55 w=>dx (mBin .add 3 t49 (iN 1)) w K fun t56 w=>N3 [t56] w) (LoopX [t8] w (fun vs4 w N4=>∀_:Sg,S_filter_parms_3 t1 (vs4.getD 0 undef) w N4 K))
def S_filter_parms_1(t1 t5 t8 t30 t31 t32 w)(N2:JT)(K:KT):=
 dx (mBin .lss 3 t32 t31) w K fun t33 w=>IfX t33 (dx (mIA 23 t30 t32) w K fun t34 w=>dx (mLoad 25 t34) w K fun t35 w=>dx (mAlloc 25) w K fun t10 w=>dx (mStore 25 t10 t35) w K fun _ w=>dx (mLoad 25 t10) w K fun t37 w=>cx 147 #[t37] w K fun t38 w=>dx (mBuildS 40 1 #[(0,t38)]) w K fun t39 w=>dx (mB .append #[40,40] 40 #[false,false] #[t8,t39]) w K fun t40 w=>dx (mBin .add 3 t32 (iN 1)) w K fun t41 w=>N2 [t40,t41] w) (dx (mB .len #[23] 3 #[false] #[t5]) w K fun t43 w=>dx (mBin .leq 3 t43 t1) w K fun t45 w=>cx 78 #[t45,(iN 1)] w K fun t46 w=>dx (mB .len #[23] 3 #[false] #[t5]) w K fun t48 w=>LoopX [(iN 0)] w (fun vs3 w N3=>∀_:Sg,S_filter_parms_2 t1 t8 t5 t48 (vs3.getD 0 undef) w N3 K))
def S_filter_parms_0(t1 t5 w)(K:KT):=
 dx (mB .len #[23] 3 #[false] #[t5]) w K fun t31 w=>LoopX [(.slice none 0 0),(iN 0)] w (fun vs2 w N2=>∀_:Sg,S_filter_parms_1 t1 t5 (vs2.getD 0 undef) t5 t31 (vs2.getD 1 undef) w N2 K)
def S_filter_parms(t0 t1 w)(K:KT):=
 dx (mBox 25 t0) w K fun t2 w=>JoinX (fun J1=>dx (mLoad 25 t2) w K fun t14 w=>cx 146 #[t14,(.string ⟨#[68,101,99,111,100,101,80,97,114,109,115]⟩)] w K fun t15 w=>dx (mExt t15 0) w K fun t16 w=>dx (mExt t15 1) w K fun t17 w=>dx (mAlloc 25) w K fun t6 w=>dx (mStore 25 t6 t16) w K fun _ w=>IfX t17 (dx (mLoad 25 t6) w K fun t19 w=>dx (mBuildS 23 1 #[(0,t19)]) w K fun t20 w=>dx (mFA 25 t6 0) w K fun t21 w=>dx (mLoad 3 t21) w K fun t22 w=>dx (mEq .eql 3 (.tmp 22) (.const (iN 6)) t22 (iN 6)) w K fun t23 w=>IfX t23 (dx (mFA 25 t6 5) w K fun t24 w=>dx (mLoad 23 t24) w K fun t25 w=>J1 [t25] w) (dx (mFA 25 t6 0) w K fun t26 w=>dx (mLoad 3 t26) w K fun t27 w=>dx (mEq .eql 3 (.tmp 27) (.const (iN 7)) t27 (iN 7)) w K fun t28 w=>cx 78 #[t28,(iN 10)] w K fun t29 w=>J1 [t20] w)) (J1 [(.slice none 0 0)] w)) (fun vs1 w=>∀_:Sg,S_filter_parms_0 t1 (vs1.getD 0 undef) w K)
theorem S_filter_parms_eq (t0 t1:Value)(w:World)(K:Ending→World→Prop):wpX prog 66 [(8,[5])] [(10,[8,32]),(16,[49]),(20,[8])] none (bodyOf Tryz.f81) (topQ prog [.tmp 4] K) (startX [t0,t1]) [] w=S_filter_parms t0 t1 w K:=by kernel_rfl
theorem S_filter_parms_ok {t0 t1:Value}{w:World}{K:Ending→World→Prop}(h:S_filter_parms t0 t1 w K):Calls prog 81 #[t0,t1] w K:=
 calls_of_wpX Tryz.func81 rfl rfl rfl rfl (Eq.mpr (S_filter_parms_eq t0 t1 w K) h)
def S_filter_Of_p0 (x0:Deferred)(x1:Value)(x2:Value)(x3:Value)(K:Ending→World→Prop):=pd prog [.cell x1 22,.cell x2 40,.cell x3 30] K [x0]
def S_filter_Of_2(t2 t3 t4 d1 w)(K:KT):=
 Leave prog [.cell t2 22,.cell t3 40,.cell t4 30] K [d1] .returning w
def S_filter_Of_1(t2 t3 t4 t46 t47 t48 d1 w)(N3:JT)(K:KT):=
 DoX prog (mBin .lss 3 t48 t47) w (S_filter_Of_p0 d1 t2 t3 t4 K) fun t49 w=>IfX t49 (DoX prog (mIA 22 t46 t48) w (S_filter_Of_p0 d1 t2 t3 t4 K) fun t51 w=>DoX prog (mLoad 9 t51) w (S_filter_Of_p0 d1 t2 t3 t4 K) fun t52 w=>DoX prog (mLoad 40 t3) w (S_filter_Of_p0 d1 t2 t3 t4 K) fun t53 w=>DoX prog (mIA 40 t53 t48) w (S_filter_Of_p0 d1 t2 t3 t4 K) fun t55 w=>DoX prog (mLoad 27 t55) w (S_filter_Of_p0 d1 t2 t3 t4 K) fun t56 w=>CallX prog 82 #[t56] w (S_filter_Of_p0 d1 t2 t3 t4 K) fun t57 w=>DoX prog (mEq .neq 30 (.tmp 58) (.const (iN 0)) t57 (iN 0)) w (S_filter_Of_p0 d1 t2 t3 t4 K) fun t59 w=>etx t59 t52 w fun t61 w=>GDo t59 true (fun E=>DoX prog (mEq .neq 9 (.tmp 61) (.const (.string ⟨#[]⟩)) t61 (.string ⟨#[]⟩)) w (S_filter_Of_p0 d1 t2 t3 t4 K) E) w fun t62 w=>DoX prog (mPick t59 t62 (.bool false)) w (S_filter_Of_p0 d1 t2 t3 t4 K) fun t63 w=>IfX t63 (DoX prog (mStore 22 t2 (.slice none 0 0)) w (S_filter_Of_p0 d1 t2 t3 t4 K) fun _ w=>DoX prog (mStore 40 t3 (.slice none 0 0)) w (S_filter_Of_p0 d1 t2 t3 t4 K) fun _ w=>DoX prog (mStore 30 t4 t57) w (S_filter_Of_p0 d1 t2 t3 t4 K) fun _ w=>Leave prog [.cell t2 22,.cell t3 40,.cell t4 30] K [d1] .returning w) (DoX prog (mBin .add 3 t48 (iN 1)) w (S_filter_Of_p0 d1 t2 t3 t4 K) fun t65 w=>AtX [d1] [d1] (N3 [t65] w))) (DrawX w (fun w=>(DoX prog (mLoad 22 t2) w (S_filter_Of_p0 d1 t2 t3 t4 K) fun t66 w=>(DoX prog (mLoad 40 t3) w (S_filter_Of_p0 d1 t2 t3 t4 K) fun t67 w=>DoX prog (mStore 22 t2 t66) w (S_filter_Of_p0 d1 t2 t3 t4 K) fun _ w=>DoX prog (mStore 40 t3 t67) w (S_filter_Of_p0 d1 t2 t3 t4 K) fun _ w=>DoX prog (mStore 30 t4 (iN 0)) w (S_filter_Of_p0 d1 t2 t3 t4 K) fun _ w=>S_filter_Of_2 t2 t3 t4 d1 w K)∧(DoX prog (mStore 22 t2 t66) w (S_filter_Of_p0 d1 t2 t3 t4 K) fun _ w=>DoX prog (mLoad 40 t3) w (S_filter_Of_p0 d1 t2 t3 t4 K) fun t67_1 w=>DoX prog (mStore 40 t3 t67_1) w (S_filter_Of_p0 d1 t2 t3 t4 K) fun _ w=>DoX prog (mStore 30 t4 (iN 0)) w (S_filter_Of_p0 d1 t2 t3 t4 K) fun _ w=>S_filter_Of_2 t2 t3 t4 d1 w K))∧(DoX prog (mLoad 40 t3) w (S_filter_Of_p0 d1 t2 t3 t4 K) fun t67_2 w=>DoX prog (mLoad 22 t2) w (S_filter_Of_p0 d1 t2 t3 t4 K) fun t66_1 w=>DoX prog (mStore 22 t2 t66_1) w (S_filter_Of_p0 d1 t2 t3 t4 K) fun _ w=>DoX prog (mStore 40 t3 t67_2) w (S_filter_Of_p0 d1 t2 t3 t4 K) fun _ w=>DoX prog (mStore 30 t4 (iN 0)) w (S_filter_Of_p0 d1 t2 t3 t4 K) fun _ w=>S_filter_Of_2 t2 t3 t4 d1 w K)))
def S_filter_Of_0(t1 t2 t3 t4 t5 t24 t25 t26 d1 w)(N2:JT)(K:KT):=
 DoX prog (mBin .lss 3 t26 t25) w (S_filter_Of_p0 d1 t2 t3 t4 K) fun t27 w=>IfX t27 (DoX prog (mIA 22 t24 t26) w (S_filter_Of_p0 d1 t2 t3 t4 K) fun t28 w=>DoX prog (mLoad 9 t28) w (S_filter_Of_p0 d1 t2 t3 t4 K) fun t29 w=>CallX prog 80 #[t29] w (S_filter_Of_p0 d1 t2 t3 t4 K) fun t32 w=>DoX prog (mExt t32 0) w (S_filter_Of_p0 d1 t2 t3 t4 K) fun t33 w=>DoX prog (mExt t32 1) w (S_filter_Of_p0 d1 t2 t3 t4 K) fun t34 w=>CallX prog 78 #[t34,(iN 15)] w (S_filter_Of_p0 d1 t2 t3 t4 K) fun t36 w=>DoX prog (mLoad 22 t2) w (S_filter_Of_p0 d1 t2 t3 t4 K) fun t37 w=>DoX prog (mBuildS 22 1 #[(0,t33)]) w (S_filter_Of_p0 d1 t2 t3 t4 K) fun t39 w=>DoX prog (mB .append #[22,22] 22 #[false,false] #[t37,t39]) w (S_filter_Of_p0 d1 t2 t3 t4 K) fun t40 w=>DoX prog (mStore 22 t2 t40) w (S_filter_Of_p0 d1 t2 t3 t4 K) fun _ w=>DoX prog (mBin .add 3 t26 (iN 1)) w (S_filter_Of_p0 d1 t2 t3 t4 K) fun t41 w=>AtX [d1] [d1] (N2 [t41] w)) (DoX prog (mLoad 25 t1) w (S_filter_Of_p0 d1 t2 t3 t4 K) fun t42 w=>DoX prog (mB .len #[22] 3 #[false] #[t5]) w (S_filter_Of_p0 d1 t2 t3 t4 K) fun t44 w=>CallX prog 81 #[t42,t44] w (S_filter_Of_p0 d1 t2 t3 t4 K) fun t45 w=>DoX prog (mStore 40 t3 t45) w (S_filter_Of_p0 d1 t2 t3 t4 K) fun _ w=>DoX prog (mLoad 22 t2) w (S_filter_Of_p0 d1 t2 t3 t4 K) fun t46 w=>DoX prog (mB .len #[22] 3 #[false] #[t46]) w (S_filter_Of_p0 d1 t2 t3 t4 K) fun t47 w=>LoopX [(iN 0)] w (fun vs3 w N3=>∀_:Sg,S_filter_Of_1 t2 t3 t4 t46 t47 (vs3.getD 0 undef) d1 w N3 K))
def S_filter_Of(t0 w)(K:KT):=
 dx (mBox 25 t0) w K fun t1 w=>dx (mAlloc 22) w K fun t2 w=>dx (mAlloc 40) w K fun t3 w=>dx (mAlloc 30) w K fun t4 w=>dx (mFunc (.func 77) #[] #[t2,t3,t4]) w K fun t13 w=>DfrX (dfrV t13 #[]) (fun d1=>DoX prog (mFA 25 t1 0) w (S_filter_Of_p0 d1 t2 t3 t4 K) fun t14 w=>DoX prog (mLoad 3 t14) w (S_filter_Of_p0 d1 t2 t3 t4 K) fun t15 w=>DoX prog (mEq .eql 3 (.tmp 15) (.const (iN 9)) t15 (iN 9)) w (S_filter_Of_p0 d1 t2 t3 t4 K) fun t16 w=>CallX prog 78 #[t16,(iN 10)] w (S_filter_Of_p0 d1 t2 t3 t4 K) fun t17 w=>DoX prog (mLoad 25 t1) w (S_filter_Of_p0 d1 t2 t3 t4 K) fun t18 w=>CallX prog 79 #[t18] w (S_filter_Of_p0 d1 t2 t3 t4 K) fun t19 w=>DoX prog (mB .len #[22] 3 #[false] #[t19]) w (S_filter_Of_p0 d1 t2 t3 t4 K) fun t21 w=>DoX prog (mBin .leq 3 t21 (iN 8)) w (S_filter_Of_p0 d1 t2 t3 t4 K) fun t22 w=>CallX prog 78 #[t22,(iN 6)] w (S_filter_Of_p0 d1 t2 t3 t4 K) fun t23 w=>DoX prog (mB .len #[22] 3 #[false] #[t19]) w (S_filter_Of_p0 d1 t2 t3 t4 K) fun t25 w=>LoopX [(iN 0)] w (fun vs2 w N2=>∀_:Sg,S_filter_Of_0 t1 t2 t3 t4 t19 t19 t25 (vs2.getD 0 undef) d1 w N2 K))
theorem S_filter_Of_eq (t0:Value)(w:World)(K:Ending→World→Prop):wpX prog 68 [] [(6,[26]),(14,[48])] none (bodyOf Tryz.f28) (topQ prog [.cell 2 22,.cell 3 40,.cell 4 30] K) (startX [t0]) [] w=S_filter_Of t0 w K:=by kernel_rfl
theorem S_filter_Of_ok {t0:Value}{w:World}{K:Ending→World→Prop}(h:S_filter_Of t0 w K):Calls prog 28 #[t0] w K:=
 calls_of_wpX Tryz.func28 rfl rfl rfl rfl (Eq.mpr (S_filter_Of_eq t0 w K) h)
def S_filter_Decode_0(t5 t7 t21 t22 t23 w)(N1:JT)(K:KT):=
 dx (mBin .lss 3 t23 t22) w K fun t24 w=>IfX t24 (dx (mIA 22 t21 t23) w K fun t26 w=>dx (mLoad 9 t26) w K fun t27 w=>dx (mIA 40 t5 t23) w K fun t32 w=>dx (mLoad 27 t32) w K fun t33 w=>cx 15 #[t27,t33,t7] w K fun t35 w=>dx (mExt t35 0) w K fun t36 w=>dx (mExt t35 1) w K fun t37 w=>dx (mEq .neq 30 (.tmp 38) (.const (iN 0)) t37 (iN 0)) w K fun t39 w=>IfX t39 (K (.returned (.tuple #[(.string ⟨#[]⟩),t37])) w) (dx (mBin .add 3 t23 (iN 1)) w K fun t41 w=>N1 [t36,t41] w)) (K (.returned (.tuple #[t7,(iN 0)])) w)
def S_filter_Decode(t0 w)(K:KT):=
 dx (mBox 25 t0) w K fun t1 w=>dx (mLoad 25 t1) w K fun t11 w=>cx 28 #[t11] w K fun t12 w=>dx (mExt t12 0) w K fun t13 w=>dx (mExt t12 1) w K fun t14 w=>dx (mExt t12 2) w K fun t15 w=>dx (mEq .neq 30 (.tmp 16) (.const (iN 0)) t15 (iN 0)) w K fun t17 w=>IfX t17 (K (.returned (.tuple #[(.string ⟨#[]⟩),t15])) w) (dx (mFA 25 t1 3) w K fun t19 w=>dx (mLoad 9 t19) w K fun t20 w=>dx (mB .len #[22] 3 #[false] #[t13]) w K fun t22 w=>LoopX [t20,(iN 0)] w (fun vs1 w N1=>∀_:Sg,S_filter_Decode_0 t14 (vs1.getD 0 undef) t13 t22 (vs1.getD 1 undef) w N1 K))
theorem S_filter_Decode_eq (t0:Value)(w:World)(K:Ending→World→Prop):wpX prog 43 [] [(6,[7,23])] none (bodyOf Tryz.f13) (topQ prog [.tmp 2,.tmp 3] K) (startX [t0]) [] w=S_filter_Decode t0 w K:=by kernel_rfl
theorem S_filter_Decode_ok {t0:Value}{w:World}{K:Ending→World→Prop}(h:S_filter_Decode t0 w K):Calls prog 13 #[t0] w K:=
 calls_of_wpX Tryz.func13 rfl rfl rfl rfl (Eq.mpr (S_filter_Decode_eq t0 w K) h)
def S_filter_full_4(t0 w)(K:KT):=
 K (.returned (.tuple #[t0,(.bool true)])) w
def S_filter_full_3(t0 w)(J1:JT):=
 J1 [t0] w
def S_filter_full_2(t0 w)(J1:JT):=
 J1 [t0] w
def S_filter_full_1(t0 w)(J1:JT):=
 J1 [t0] w
def S_filter_full_0(t0 w)(J1:JT):=
 J1 [t0] w
def S_filter_full(t0 w)(K:KT):=
 JoinX (fun J1=>JoinX (fun J2=>JoinX (fun J3=>JoinX (fun J4=>JoinX (fun J5=>dx (mEq .eql 9 (.tmp 4) (.const (.string ⟨#[65,72,120]⟩)) t0 (.string ⟨#[65,72,120]⟩)) w K fun t6 w=>IfX t6 (J5 [(.string ⟨#[65,83,67,73,73,72,101,120,68,101,99,111,100,101]⟩)] w) (dx (mEq .eql 9 (.tmp 4) (.const (.string ⟨#[65,83,67,73,73,72,101,120,68,101,99,111,100,101]⟩)) t0 (.string ⟨#[65,83,67,73,73,72,101,120,68,101,99,111,100,101]⟩)) w K fun t8 w=>IfX t8 (J5 [t0] w) (dx (mEq .eql 9 (.tmp 4) (.const (.string ⟨#[65,56,53]⟩)) t0 (.string ⟨#[65,56,53]⟩)) w K fun t10 w=>IfX t10 (J4 [(.string ⟨#[65,83,67,73,73,56,53,68,101,99,111,100,101]⟩)] w) (dx (mEq .eql 9 (.tmp 4) (.const (.string ⟨#[65,83,67,73,73,56,53,68,101,99,111,100,101]⟩)) t0 (.string ⟨#[65,83,67,73,73,56,53,68,101,99,111,100,101]⟩)) w K fun t12 w=>IfX t12 (J4 [t0] w) (dx (mEq .eql 9 (.tmp 4) (.const (.string ⟨#[82,76]⟩)) t0 (.string ⟨#[82,76]⟩)) w K fun t14 w=>IfX t14 (J3 [(.string ⟨#[82,117,110,76,101,110,103,116,104,68,101,99,111,100,101]⟩)] w) (dx (mEq .eql 9 (.tmp 4) (.const (.string ⟨#[82,117,110,76,101,110,103,116,104,68,101,99,111,100,101]⟩)) t0 (.string ⟨#[82,117,110,76,101,110,103,116,104,68,101,99,111,100,101]⟩)) w K fun t16 w=>IfX t16 (J3 [t0] w) (dx (mEq .eql 9 (.tmp 4) (.const (.string ⟨#[70,108]⟩)) t0 (.string ⟨#[70,108]⟩)) w K fun t18 w=>IfX t18 (J2 [(.string ⟨#[70,108,97,116,101,68,101,99,111,100,101]⟩)] w) (dx (mEq .eql 9 (.tmp 4) (.const (.string ⟨#[70,108,97,116,101,68,101,99,111,100,101]⟩)) t0 (.string ⟨#[70,108,97,116,101,68,101,99,111,100,101]⟩)) w K fun t20 w=>IfX t20 (J2 [t0] w) (K (.returned (.tuple #[(.string ⟨#[]⟩),(.bool false)])) w))))))))) (fun vs5 w=>∀_:Sg,S_filter_full_0 (vs5.getD 0 undef) w J1)) (fun vs4 w=>∀_:Sg,S_filter_full_1 (vs4.getD 0 undef) w J1)) (fun vs3 w=>∀_:Sg,S_filter_full_2 (vs3.getD 0 undef) w J1)) (fun vs2 w=>∀_:Sg,S_filter_full_3 (vs2.getD 0 undef) w J1)) (fun vs1 w=>∀_:Sg,S_filter_full_4 (vs1.getD 0 undef) w K)
theorem S_filter_full_eq (t0:Value)(w:World)(K:Ending→World→Prop):wpX prog 22 [(15,[0]),(999999,[0])] [] none (bodyOf Tryz.f80) (topQ prog [.tmp 2,.tmp 3] K) (startX [t0]) [] w=S_filter_full t0 w K:=by kernel_rfl
theorem S_filter_full_ok {t0:Value}{w:World}{K:Ending→World→Prop}(h:S_filter_full t0 w K):Calls prog 80 #[t0] w K:=
 calls_of_wpX Tryz.func80 rfl rfl rfl rfl (Eq.mpr (S_filter_full_eq t0 w K) h)
def S_filter_usual(w)(K:KT):=
 dx (mAlloc 27) w K fun t0 w=>dx (mBuild 27 #[(0,(iN 1)),(1,(iN 1)),(2,(iN 1))]) w K fun t1 w=>dx (mStore 27 t0 t1) w K fun _ w=>RetX prog [.cell t0 27] w K
theorem S_filter_usual_ok{w K}(h:S_filter_usual w K):Calls prog 135 #[] w K:=cw Tryz.func135 rfl rfl (by kernel_rfl) h
def S_filter_number(t0 t1 w)(K:KT):=
 dx (mBox 25 t0) w K fun t2 w=>dx (mLoad 25 t2) w K fun t8 w=>cx 146 #[t8,t1] w K fun t10 w=>dx (mExt t10 0) w K fun t11 w=>dx (mExt t10 1) w K fun t12 w=>dx (mAlloc 25) w K fun t5 w=>dx (mStore 25 t5 t11) w K fun _ w=>dx (mUn .not t12) w K fun t14 w=>IfX t14 (K (.returned (iN 1)) w) (dx (mFA 25 t5 0) w K fun t15 w=>dx (mLoad 3 t15) w K fun t16 w=>dx (mEq .eql 3 (.tmp 16) (.const (iN 2)) t16 (iN 2)) w K fun t17 w=>cx 78 #[t17,(iN 10)] w K fun t18 w=>dx (mFA 25 t5 1) w K fun t19 w=>dx (mLoad 2 t19) w K fun t20 w=>K (.returned t20) w)
theorem S_filter_number_ok{t0 t1 w K}(h:S_filter_number t0 t1 w K):Calls prog 208 #[t0,t1] w K:=cw Tryz.func208 rfl rfl (by kernel_rfl) h
def S_filter_one(t0 w)(K:KT):=
 dx (mBox 25 t0) w K fun t1 w=>dx (mAlloc 27) w K fun t2 w=>dx (mFA 25 t1 0) w K fun t3 w=>dx (mLoad 3 t3) w K fun t4 w=>dx (mEq .eql 3 (.tmp 4) (.const (iN 0)) t4 (iN 0)) w K fun t5 w=>IfX t5 (cx 135 #[] w K fun t6 w=>dx (mStore 27 t2 t6) w K fun _ w=>RetX prog [.cell t2 27] w K) (dx (mFA 25 t1 0) w K fun t7 w=>dx (mLoad 3 t7) w K fun t8 w=>dx (mEq .eql 3 (.tmp 8) (.const (iN 7)) t8 (iN 7)) w K fun t9 w=>cx 78 #[t9,(iN 10)] w K fun t10 w=>HeldX w (fun S1 w=>HDo prog S1 (mLoad 25 t1) fun t11=>HDo prog S1 (mLoad 25 t1) fun t13=>HDo prog S1 (mLoad 25 t1) fun t15=>CallX prog 208 #[t11,(.string ⟨#[80,114,101,100,105,99,116,111,114]⟩)] w (pm1 (pm1 (pm1 (pm1 (pk K))))) fun t12 w=>S1 w∧(CallX prog 208 #[t13,(.string ⟨#[67,111,108,111,114,115]⟩)] w (pm1 (pm1 (pm1 (pm1 (pk K))))) fun t14 w=>S1 w∧(CallX prog 208 #[t15,(.string ⟨#[67,111,108,117,109,110,115]⟩)] w (pm1 (pm1 (pm1 (pm1 (pk K))))) fun t16 w=>S1 w∧(HDo prog (fun _=>True) (mBuild 27 #[(0,t12),(1,t14),(2,t16)]) fun t17=>DoX prog (mStore 27 t2 t17) w (pm1 (pm1 (pm1 (pm1 (pk K))))) fun _ w=>(RetX prog [.cell t2 27] w K))))))
theorem S_filter_one_ok{t0 w K}(h:S_filter_one t0 w K):Calls prog 147 #[t0] w K:=cw Tryz.func147 rfl rfl (by kernel_rfl) h
def S_filter_eight(t0 w)(K:KT):=
 dx (mBox 25 t0) w K fun t1 w=>dx (mLoad 25 t1) w K fun t6 w=>cx 146 #[t6,(.string ⟨#[66,105,116,115,80,101,114,67,111,109,112,111,110,101,110,116]⟩)] w K fun t7 w=>dx (mExt t7 0) w K fun t8 w=>dx (mExt t7 1) w K fun t9 w=>dx (mAlloc 25) w K fun t3 w=>dx (mStore 25 t3 t8) w K fun _ w=>dx (mUn .not t9) w K fun t11 w=>gfx t11 (mFA 25 t3 0) w K fun t13 w=>gfx t11 (mLoad 3 t13) w K fun t14 w=>gfx t11 (mEq .eql 3 (.tmp 14) (.const (iN 2)) t14 (iN 2)) w K fun t15 w=>efx t11 t15 w fun t16 w=>gtx t16 (mFA 25 t3 1) w K fun t17 w=>gtx t16 (mLoad 2 t17) w K fun t18 w=>gtx t16 (mEq .eql 2 (.tmp 18) (.const (iN 8)) t18 (iN 8)) w K fun t19 w=>gfx t11 (mPick t16 t19 (.bool false)) w K fun t20 w=>dx (mPick t11 (.bool true) t20) w K fun t21 w=>K (.returned t21) w
theorem S_filter_eight_ok{t0 w K}(h:S_filter_eight t0 w K):Calls prog 148 #[t0] w K:=cw Tryz.func148 rfl rfl (by kernel_rfl) h
end
section
open Eng
def S_filter_Undo(t0 t1 t2 w)(K:KT):=
 dx (mBox 27 t1) w K fun t4 w=>dx (mLoad 27 t4) w K fun t12 w=>cx 54 #[t0,t12] w K fun t13 w=>dx (mExt t13 0) w K fun t14 w=>dx (mExt t13 1) w K fun t15 w=>dx (mAlloc 91) w K fun t8 w=>dx (mStore 91 t8 t14) w K fun _ w=>dx (mEq .neq 30 (.tmp 16) (.const (iN 0)) t15 (iN 0)) w K fun t17 w=>IfX t17 (K (.returned (.tuple #[(.string ⟨#[]⟩),t15])) w) (dx (mFA 91 t8 1) w K fun t19 w=>dx (mLoad 89 t19) w K fun t20 w=>dx (mCallV t20 #[t2]) w K fun t22 w=>dx (mExt t22 0) w K fun t23 w=>dx (mExt t22 1) w K fun t24 w=>K (.returned (.tuple #[t23,t24])) w)
theorem S_filter_Undo_ok{t0 t1 t2 w K}(h:S_filter_Undo t0 t1 t2 w K):Calls prog 15 #[t0,t1,t2] w K:=cw Tryz.func15 rfl rfl (by kernel_rfl) h
def S_filter_by(t0 t1 w)(K:KT):=
 dx (mBox 27 t1) w K fun t3 w=>dx (mAlloc 91) w K fun t4 w=>cx 80 #[t0] w K fun t11 w=>dx (mExt t11 0) w K fun t12 w=>dx (mExt t11 1) w K fun t13 w=>dx (mUn .not t13) w K fun t15 w=>IfX t15 (dx (mBuild 91 #[]) w K fun t16 w=>dx (mStore 91 t4 t16) w K fun _ w=>RetX prog [.cell t4 91,.val (iN 15)] w K) (dx (mEq .eql 9 (.tmp 17) (.const (.string ⟨#[65,83,67,73,73,72,101,120,68,101,99,111,100,101]⟩)) t12 (.string ⟨#[65,83,67,73,73,72,101,120,68,101,99,111,100,101]⟩)) w K fun t19 w=>IfX t19 (cx 113 #[(.func (.func 114) #[] #[])] w K fun t20 w=>cx 115 #[(.func (.func 116) #[] #[])] w K fun t21 w=>dx (mBuild 91 #[(0,t20),(1,t21)]) w K fun t22 w=>dx (mStore 91 t4 t22) w K fun _ w=>RetX prog [.cell t4 91,.val (iN 0)] w K) (dx (mEq .eql 9 (.tmp 17) (.const (.string ⟨#[65,83,67,73,73,56,53,68,101,99,111,100,101]⟩)) t12 (.string ⟨#[65,83,67,73,73,56,53,68,101,99,111,100,101]⟩)) w K fun t24 w=>IfX t24 (cx 113 #[(.func (.func 117) #[] #[])] w K fun t25 w=>cx 115 #[(.func (.func 118) #[] #[])] w K fun t26 w=>dx (mBuild 91 #[(0,t25),(1,t26)]) w K fun t27 w=>dx (mStore 91 t4 t27) w K fun _ w=>RetX prog [.cell t4 91,.val (iN 0)] w K) (dx (mEq .eql 9 (.tmp 17) (.const (.string ⟨#[82,117,110,76,101,110,103,116,104,68,101,99,111,100,101]⟩)) t12 (.string ⟨#[82,117,110,76,101,110,103,116,104,68,101,99,111,100,101]⟩)) w K fun t29 w=>IfX t29 (cx 113 #[(.func (.func 119) #[] #[])] w K fun t30 w=>cx 115 #[(.func (.func 120) #[] #[])] w K fun t31 w=>dx (mBuild 91 #[(0,t30),(1,t31)]) w K fun t32 w=>dx (mStore 91 t4 t32) w K fun _ w=>RetX prog [.cell t4 91,.val (iN 0)] w K) (dx (mLoad 27 t3) w K fun t33 w=>dx (mBuild 143 #[(0,t33)]) w K fun t34 w=>dx (mAlloc 143) w K fun t8 w=>dx (mStore 143 t8 t34) w K fun _ w=>QuietX w (fun C1=>QDo prog C1 (mLoad 143 t8) fun t35=>QDo prog C1 (mFunc (.func 121) #[t35] #[]) fun t36=>QDo prog C1 (mLoad 143 t8) fun t37=>QDo prog C1 (mFunc (.func 122) #[t37] #[]) fun t38=>QDo prog C1 (mBuild 91 #[(0,t36),(1,t38)]) fun t39=>QDo prog C1 (mLoad 27 t3) fun t40=>QCall prog C1 82 #[t40] fun t41=>
 ∀w,C1 w →
 dx (mStore 91 t4 t39) w K fun _ w=>RetX prog [.cell t4 91,.val t41] w K)))))
theorem S_filter_by_ok{t0 t1 w K}(h:S_filter_by t0 t1 w K):Calls prog 54 #[t0,t1] w K:=cw Tryz.func54 rfl rfl (by kernel_rfl) h
def S_filter_sure(t0 w)(K:KT):=
 dx (mBox 36 t0) w K fun t1 w=>dx (mFunc (.func 171) #[] #[t1]) w K fun t3 w=>K (.returned t3) w
theorem S_filter_sure_ok{t0 w K}(h:S_filter_sure t0 w K):Calls prog 113 #[t0] w K:=cw Tryz.func113 rfl rfl (by kernel_rfl) h
def S_filter_sure_1(t0 t1 w)(K:KT):=
 dx (mLoad 36 t1) w K fun t5 w=>dx (mCallV t5 #[t0]) w K fun t7 w=>K (.returned (.tuple #[t7,(iN 0)])) w
theorem S_filter_sure_1_ok{t0 t1 w K}(h:S_filter_sure_1 t0 t1 w K):Calls prog 171 #[t0,t1] w K:=cw Tryz.func171 rfl rfl (by kernel_rfl) h
def S_filter_upTo(t0 w)(K:KT):=
 dx (mBox 94 t0) w K fun t1 w=>dx (mFunc (.func 173) #[] #[t1]) w K fun t3 w=>K (.returned t3) w
theorem S_filter_upTo_ok{t0 w K}(h:S_filter_upTo t0 w K):Calls prog 115 #[t0] w K:=cw Tryz.func115 rfl rfl (by kernel_rfl) h
def S_filter_upTo_1(t0 t1 w)(K:KT):=
 dx (mLoad 94 t1) w K fun t5 w=>dx (mCallV t5 #[t0,(iN 1048576)]) w K fun t7 w=>dx (mExt t7 0) w K fun t8 w=>dx (mExt t7 1) w K fun t9 w=>K (.returned (.tuple #[t8,t9])) w
theorem S_filter_upTo_1_ok{t0 t1 w K}(h:S_filter_upTo_1 t0 t1 w K):Calls prog 173 #[t0,t1] w K:=cw Tryz.func173 rfl rfl (by kernel_rfl) h
def S_filter_Known(t0 w)(K:KT):=
 cx 80 #[t0] w K fun t7 w=>dx (mExt t7 0) w K fun t8 w=>dx (mExt t7 1) w K fun t9 w=>K (.returned t9) w
theorem S_filter_Known_ok{t0 w K}(h:S_filter_Known t0 w K):Calls prog 52 #[t0] w K:=cw Tryz.func52 rfl rfl (by kernel_rfl) h
def S_filter_One(t0 t1 t2 w)(K:KT):=
 dx (mBox 27 t1) w K fun t4 w=>dx (mLoad 27 t4) w K fun t12 w=>cx 54 #[t0,t12] w K fun t13 w=>dx (mExt t13 0) w K fun t14 w=>dx (mExt t13 1) w K fun t15 w=>dx (mAlloc 91) w K fun t8 w=>dx (mStore 91 t8 t14) w K fun _ w=>dx (mEq .neq 30 (.tmp 16) (.const (iN 0)) t15 (iN 0)) w K fun t17 w=>IfX t17 (K (.returned (.tuple #[(.string ⟨#[]⟩),t15])) w) (dx (mB .len #[9] 3 #[false] #[t2]) w K fun t20 w=>dx (mBin .gtr 3 t20 (iN 1048576)) w K fun t21 w=>IfX t21 (K (.returned (.tuple #[(.string ⟨#[]⟩),(iN 5)])) w) (dx (mFA 91 t8 0) w K fun t22 w=>dx (mLoad 89 t22) w K fun t23 w=>dx (mCallV t23 #[t2]) w K fun t25 w=>dx (mExt t25 0) w K fun t26 w=>dx (mExt t25 1) w K fun t27 w=>K (.returned (.tuple #[t26,t27])) w))
theorem S_filter_One_ok{t0 t1 t2 w K}(h:S_filter_One t0 t1 t2 w K):Calls prog 17 #[t0,t1,t2] w K:=cw Tryz.func17 rfl rfl (by kernel_rfl) h
def S_filter_Plain(t0 t1 w)(K:KT):=
 dx (mBox 25 t0) w K fun t2 w=>dx (mAlloc 25) w K fun t4 w=>dx (mFA 25 t2 0) w K fun t7 w=>dx (mLoad 3 t7) w K fun t8 w=>dx (mEq .neq 3 (.tmp 8) (.const (iN 9)) t8 (iN 9)) w K fun t9 w=>gtx t9 (mFA 25 t2 0) w K fun t11 w=>gtx t9 (mLoad 3 t11) w K fun t12 w=>gtx t9 (mEq .neq 3 (.tmp 12) (.const (iN 7)) t12 (iN 7)) w K fun t13 w=>dx (mPick t9 t13 (.bool false)) w K fun t14 w=>IfX t14 (dx (mBuild 25 #[]) w K fun t15 w=>dx (mStore 25 t4 t15) w K fun _ w=>RetX prog [.cell t4 25,.val (iN 10)] w K) (dx (mFA 25 t2 0) w K fun t16 w=>dx (mStore 3 t16 (iN 7)) w K fun _ w=>dx (mFA 25 t2 3) w K fun t17 w=>dx (mStore 9 t17 (.string ⟨#[]⟩)) w K fun _ w=>dx (mLoad 25 t2) w K fun t18 w=>cx 86 #[t18] w K fun t19 w=>dx (mEq .neq 30 (.tmp 20) (.const (iN 0)) t19 (iN 0)) w K fun t21 w=>IfX t21 (dx (mBuild 25 #[]) w K fun t22 w=>dx (mStore 25 t4 t22) w K fun _ w=>RetX prog [.cell t4 25,.val t19] w K) (dx (mLoad 25 t2) w K fun t24 w=>cx 88 #[t24,(.string ⟨#[70,105,108,116,101,114]⟩)] w K fun t25 w=>cx 88 #[t25,(.string ⟨#[68,101,99,111,100,101,80,97,114,109,115]⟩)] w K fun t26 w=>cx 87 #[t26,t1] w K fun t28 w=>dx (mExt t28 0) w K fun t29 w=>dx (mExt t28 1) w K fun t30 w=>dx (mStore 25 t4 t29) w K fun _ w=>RetX prog [.cell t4 25,.val t30] w K))
theorem S_filter_Plain_ok{t0 t1 w K}(h:S_filter_Plain t0 t1 w K):Calls prog 30 #[t0,t1] w K:=cw Tryz.func30 rfl rfl (by kernel_rfl) h
def S_filter_Encode_2(t4 t8 w)(K:KT):=
 dx (mLoad 25 t4) w K fun t136 w=>dx (mStore 25 t8 t136) w K fun _ w=>RetX prog [.cell t8 25,.val (iN 0)] w K
def S_filter_Encode_1(t2 t4 t8 t9 t12 t13 t14 t78 t79 t80 w)(N3:JT)(K:KT):=
 dx (mBin .lss 3 t80 t79) w K fun t81 w=>IfX t81 (dx (mIA 22 t78 t80) w K fun t83 w=>dx (mLoad 9 t83) w K fun t84 w=>dx (mIA 40 t2 t80) w K fun t88 w=>dx (mLoad 27 t88) w K fun t89 w=>cx 68 #[t89] w K fun t90 w=>dx (mExt t90 0) w K fun t91 w=>dx (mExt t90 1) w K fun t92 w=>dx (mAlloc 25) w K fun t17 w=>dx (mStore 25 t17 t91) w K fun _ w=>dx (mEq .neq 30 (.tmp 93) (.const (iN 0)) t92 (iN 0)) w K fun t94 w=>IfX t94 (dx (mBuild 25 #[]) w K fun t95 w=>dx (mStore 25 t8 t95) w K fun _ w=>RetX prog [.cell t8 25,.val t92] w K) (cx 69 #[t84] w K fun t99 w=>dx (mBuildS 23 1 #[(0,t99)]) w K fun t100 w=>dx (mB .append #[23,23] 23 #[false,false] #[t12,t100]) w K fun t101 w=>dx (mLoad 25 t17) w K fun t103 w=>dx (mBuildS 23 1 #[(0,t103)]) w K fun t104 w=>dx (mB .append #[23,23] 23 #[false,false] #[t13,t104]) w K fun t105 w=>gfx t14 (mFA 25 t17 0) w K fun t108 w=>gfx t14 (mLoad 3 t108) w K fun t109 w=>gfx t14 (mEq .neq 3 (.tmp 109) (.const (iN 0)) t109 (iN 0)) w K fun t110 w=>dx (mPick t14 (.bool true) t110) w K fun t111 w=>dx (mBin .add 3 t80 (iN 1)) w K fun t112 w=>N3 [t9,t101,t105,t111,t112] w)) (HeldX w (fun S4 w=>HDo prog S4 (mLoad 25 t4) fun t114=>CallX prog 71 #[t12] w (pm1 (pm1 (pm1 (pm1 (pm1 (pm1 (pk K))))))) fun t116 w=>S4 w∧(CallX prog 70 #[t114,(.string ⟨#[70,105,108,116,101,114]⟩),t116] w (pm1 (pm1 (pm1 (pm1 (pm1 (pm1 (pk K))))))) fun t117 w=>(HDo prog (fun _=>True) (mExt t117 0) fun t118=>HDo prog (fun _=>True) (mExt t117 1) fun t119=>DoX prog (mStore 25 t4 t118) w (pm1 (pm1 (pm1 (pm1 (pm1 (pm1 (pk K))))))) fun _ w=>(dx (mEq .neq 30 (.tmp 120) (.const (iN 0)) t119 (iN 0)) w K fun t121 w=>IfX t121 (dx (mBuild 25 #[]) w K fun t122 w=>dx (mStore 25 t8 t122) w K fun _ w=>RetX prog [.cell t8 25,.val t119] w K) (JoinX (fun J5=>IfX t14 (HeldX w (fun S6 w=>HDo prog S6 (mLoad 25 t4) fun t126=>CallX prog 71 #[t13] w (pm1 (pm1 (pm1 (pm1 (pm1 (pm1 (pk K))))))) fun t128 w=>S6 w∧(CallX prog 70 #[t126,(.string ⟨#[68,101,99,111,100,101,80,97,114,109,115]⟩),t128] w (pm1 (pm1 (pm1 (pm1 (pm1 (pm1 (pk K))))))) fun t129 w=>(HDo prog (fun _=>True) (mExt t129 0) fun t130=>HDo prog (fun _=>True) (mExt t129 1) fun t131=>DoX prog (mStore 25 t4 t130) w (pm1 (pm1 (pm1 (pm1 (pm1 (pm1 (pk K))))))) fun _ w=>(dx (mEq .neq 30 (.tmp 132) (.const (iN 0)) t131 (iN 0)) w K fun t133 w=>IfX t133 (dx (mBuild 25 #[]) w K fun t134 w=>dx (mStore 25 t8 t134) w K fun _ w=>RetX prog [.cell t8 25,.val t131] w K) (J5 [t9] w)))))) (J5 [t9] w)) (fun vs5 w=>∀_:Sg,S_filter_Encode_2 t4 t8 w K)))))))
def S_filter_Encode_0(t1 t2 t3 t4 t8 t9 t11 w)(N1:JT)(K:KT):=
 dx (mBin .geq 3 t11 (iN 0)) w K fun t43 w=>IfX t43 (QuietX w (fun C2=>QDo prog C2 (mIA 22 t1 t11) fun t49=>QDo prog C2 (mLoad 9 t49) fun t50=>QDo prog C2 (mIA 40 t2 t11) fun t53=>QDo prog C2 (mLoad 27 t53) fun t54=>QCall prog C2 17 #[t50,t54,t3] fun t56=>QDo prog C2 (mExt t56 0) fun t57=>QDo prog C2 (mExt t56 1) fun t58=>
 ∀w,C2 w →
 dx (mEq .neq 30 (.tmp 59) (.const (iN 0)) t58 (iN 0)) w K fun t60 w=>IfX t60 (dx (mBuild 25 #[]) w K fun t61 w=>dx (mStore 25 t8 t61) w K fun _ w=>RetX prog [.cell t8 25,.val t58] w K) (dx (mBin .sub 3 t11 (iN 1)) w K fun t45 w=>N1 [t57,t9,t45] w))) (dx (mLoad 25 t4) w K fun t64 w=>cx 30 #[t64,t3] w K fun t66 w=>dx (mExt t66 0) w K fun t67 w=>dx (mExt t66 1) w K fun t68 w=>dx (mStore 25 t4 t67) w K fun _ w=>dx (mEq .neq 30 (.tmp 69) (.const (iN 0)) t68 (iN 0)) w K fun t70 w=>efx t70 t1 w fun t72 w=>gfx t70 (mB .len #[22] 3 #[false] #[t72]) w K fun t73 w=>gfx t70 (mEq .eql 3 (.tmp 73) (.const (iN 0)) t73 (iN 0)) w K fun t74 w=>dx (mPick t70 (.bool true) t74) w K fun t75 w=>IfX t75 (dx (mLoad 25 t4) w K fun t76 w=>dx (mStore 25 t8 t76) w K fun _ w=>RetX prog [.cell t8 25,.val t68] w K) (dx (mB .len #[22] 3 #[false] #[t1]) w K fun t79 w=>LoopX [t9,(.slice none 0 0),(.slice none 0 0),(.bool false),(iN 0)] w (fun vs3 w N3=>∀_:Sg,S_filter_Encode_1 t2 t4 t8 (vs3.getD 0 undef) (vs3.getD 1 undef) (vs3.getD 2 undef) (vs3.getD 3 undef) t1 t79 (vs3.getD 4 undef) w N3 K)))
def S_filter_Encode(t0 t1 t2 t3 w)(K:KT):=
 dx (mBox 25 t0) w K fun t4 w=>dx (mAlloc 25) w K fun t8 w=>dx (mFA 25 t4 0) w K fun t19 w=>dx (mLoad 3 t19) w K fun t20 w=>dx (mEq .neq 3 (.tmp 20) (.const (iN 9)) t20 (iN 9)) w K fun t21 w=>gtx t21 (mFA 25 t4 0) w K fun t23 w=>gtx t21 (mLoad 3 t23) w K fun t24 w=>gtx t21 (mEq .neq 3 (.tmp 24) (.const (iN 7)) t24 (iN 7)) w K fun t25 w=>dx (mPick t21 t25 (.bool false)) w K fun t26 w=>IfX t26 (dx (mBuild 25 #[]) w K fun t27 w=>dx (mStore 25 t8 t27) w K fun _ w=>RetX prog [.cell t8 25,.val (iN 10)] w K) (cx 67 #[t1,t2] w K fun t31 w=>dx (mExt t31 0) w K fun t32 w=>dx (mExt t31 1) w K fun t33 w=>dx (mExt t31 2) w K fun t34 w=>dx (mEq .neq 30 (.tmp 35) (.const (iN 0)) t34 (iN 0)) w K fun t36 w=>IfX t36 (dx (mBuild 25 #[]) w K fun t37 w=>dx (mStore 25 t8 t37) w K fun _ w=>RetX prog [.cell t8 25,.val t34] w K) (dx (mB .len #[22] 3 #[false] #[t32]) w K fun t40 w=>dx (mBin .sub 3 t40 (iN 1)) w K fun t41 w=>LoopX [t3,(iN 0),t41] w (fun vs1 w N1=>∀_:Sg,S_filter_Encode_0 t32 t33 (vs1.getD 0 undef) t4 t8 (vs1.getD 1 undef) (vs1.getD 2 undef) w N1 K)))
theorem S_filter_Encode_eq (t0 t1 t2 t3:Value)(w:World)(K:Ending→World→Prop):wpX prog 137 [(34,[9])] [(7,[3,9,11]),(18,[9,12,13,14,80])] none (bodyOf Tryz.f22) (topQ prog [.cell 8 25,.tmp 9] K) (startX [t0,t1,t2,t3]) [] w=S_filter_Encode t0 t1 t2 t3 w K:=by kernel_rfl
theorem S_filter_Encode_ok {t0 t1 t2 t3:Value}{w:World}{K:Ending→World→Prop}(h:S_filter_Encode t0 t1 t2 t3 w K):Calls prog 22 #[t0,t1,t2,t3] w K:=
 calls_of_wpX Tryz.func22 rfl rfl rfl rfl (Eq.mpr (S_filter_Encode_eq t0 t1 t2 t3 w K) h)
def S_filter_told(t0 w)(K:KT):=
 dx (mBox 27 t0) w K fun t1 w=>dx (mAlloc 25) w K fun t2 w=>QuietX w (fun C1=>QDo prog C1 (mLoad 27 t1) fun t4=>QCall prog C1 135 #[] fun t5=>QDo prog C1 (mEq .eql 27 (.tmp 4) (.tmp 5) t4 t5) fun t6=>
 ∀w,C1 w →
 IfX t6 (dx (mBuild 25 #[]) w K fun t7 w=>dx (mStore 25 t2 t7) w K fun _ w=>RetX prog [.cell t2 25,.val (iN 0)] w K) (HeldX w (fun S2 w=>HDo prog (fun _=>True) (mFA 27 t1 1) fun t9=>HDo prog S2 (mLoad 3 t9) fun t10=>HDo prog (fun _=>True) (mFA 27 t1 2) fun t13=>HDo prog S2 (mLoad 3 t13) fun t14=>HDo prog (fun _=>True) (mFA 27 t1 0) fun t17=>HDo prog S2 (mLoad 3 t17) fun t18=>CallX prog 69 #[(.string ⟨#[67,111,108,111,114,115]⟩)] w (pm1 (pm1 (pm1 (pm1 (pm1 (pm1 (pm1 (pm1 (pm1 (pk K)))))))))) fun t8 w=>S2 w∧(CallX prog 137 #[t10] w (pm1 (pm1 (pm1 (pm1 (pm1 (pm1 (pm1 (pm1 (pm1 (pk K)))))))))) fun t11 w=>S2 w∧(CallX prog 69 #[(.string ⟨#[67,111,108,117,109,110,115]⟩)] w (pm1 (pm1 (pm1 (pm1 (pm1 (pm1 (pm1 (pm1 (pm1 (pk K)))))))))) fun t12 w=>S2 w∧(CallX prog 137 #[t14] w (pm1 (pm1 (pm1 (pm1 (pm1 (pm1 (pm1 (pm1 (pm1 (pk K)))))))))) fun t15 w=>S2 w∧(CallX prog 69 #[(.string ⟨#[80,114,101,100,105,99,116,111,114]⟩)] w (pm1 (pm1 (pm1 (pm1 (pm1 (pm1 (pm1 (pm1 (pm1 (pk K)))))))))) fun t16 w=>S2 w∧(CallX prog 137 #[t18] w (pm1 (pm1 (pm1 (pm1 (pm1 (pm1 (pm1 (pm1 (pm1 (pk K)))))))))) fun t19 w=>S2 w∧(DoX prog (mBuildS 23 6 #[(0,t8),(1,t11),(2,t12),(3,t15),(4,t16),(5,t19)]) w (pm1 (pm1 (pm1 (pm1 (pm1 (pm1 (pm1 (pm1 (pm1 (pk K)))))))))) fun t20 w=>S2 w∧(CallX prog 136 #[t20] w (pm1 (pm1 (pm1 (pm1 (pm1 (pm1 (pm1 (pm1 (pm1 (pk K)))))))))) fun t21 w=>S2 w∧(HDo prog (fun _=>True) (mExt t21 0) fun t22=>HDo prog (fun _=>True) (mExt t21 1) fun t23=>DoX prog (mStore 25 t2 t22) w (pm1 (pm1 (pm1 (pm1 (pm1 (pm1 (pm1 (pm1 (pm1 (pk K)))))))))) fun _ w=>(RetX prog [.cell t2 25,.val t23] w K))))))))))))
theorem S_filter_told_ok{t0 w K}(h:S_filter_told t0 w K):Calls prog 68 #[t0] w K:=cw Tryz.func68 rfl rfl (by kernel_rfl) h
def S_filter_alone(t0 w)(K:KT):=
 dx (mAlloc 25) w K fun t2 w=>dx (mB .len #[23] 3 #[false] #[t0]) w K fun t4 w=>dx (mEq .eql 3 (.tmp 4) (.const (iN 1)) t4 (iN 1)) w K fun t5 w=>IfX t5 (dx (mIA 23 t0 (iN 0)) w K fun t7 w=>dx (mLoad 25 t7) w K fun t8 w=>dx (mStore 25 t2 t8) w K fun _ w=>RetX prog [.cell t2 25] w K) (cx 141 #[t0] w K fun t10 w=>dx (mStore 25 t2 t10) w K fun _ w=>RetX prog [.cell t2 25] w K)
theorem S_filter_alone_ok{t0 w K}(h:S_filter_alone t0 w K):Calls prog 71 #[t0] w K:=cw Tryz.func71 rfl rfl (by kernel_rfl) h
def S_filter_may_2(t12 t13 t14 t51 w)(N2:JT)(K:KT):=
 QuietX w (fun C4=>QDo prog C4 (mEq .neq 9 (.tmp 63) (.const (.string ⟨#[70,108,97,116,101,68,101,99,111,100,101]⟩)) t14 (.string ⟨#[70,108,97,116,101,68,101,99,111,100,101]⟩)) fun t64=>GQ t64 true (fun E=>E t12) fun t66=>GQ t64 true (fun E=>E t13) fun t67=>GQ t64 true (fun E=>QDo prog C4 (mIA 40 t66 t67) E) fun t68=>GQ t64 true (fun E=>QDo prog C4 (mLoad 27 t68) E) fun t69=>GQ t64 true (fun E=>QCall prog C4 135 #[] E) fun t70=>GQ t64 true (fun E=>QDo prog C4 (mEq .neq 27 (.tmp 69) (.tmp 70) t69 t70) E) fun t71=>QDo prog C4 (mPick t64 t71 (.bool false)) fun t72=>
 ∀w,C4 w →
 IfX t72 (K (.returned (.tuple #[(.slice none 0 0),(.slice none 0 0),(iN 1)])) w) (dx (mBin .add 3 t51 (iN 1)) w K fun t73 w=>N2 [t12,t73] w))
def S_filter_may_1(t1 t7 t12 t49 t50 t51 w)(N2:JT)(K:KT):=
 dx (mBin .lss 3 t51 t50) w K fun t52 w=>IfX t52 (dx (mIA 22 t49 t51) w K fun t54 w=>dx (mLoad 9 t54) w K fun t55 w=>JoinX (fun J3=>dx (mB .len #[40] 3 #[false] #[t1]) w K fun t57 w=>dx (mEq .eql 3 (.tmp 57) (.const (iN 0)) t57 (iN 0)) w K fun t58 w=>IfX t58 (cx 135 #[] w K fun t60 w=>dx (mBuildS 40 1 #[(0,t60)]) w K fun t61 w=>dx (mB .append #[40,40] 40 #[false,false] #[t12,t61]) w K fun t62 w=>J3 [t62] w) (J3 [t12] w)) (fun vs3 w=>∀_:Sg,S_filter_may_2 (vs3.getD 0 undef) t51 t55 t51 w N2 K)) (K (.returned (.tuple #[t7,t12,(iN 0)])) w)
def S_filter_may_0(t0 t1 t7 t18 t19 t20 w)(N1:JT)(K:KT):=
 dx (mBin .lss 3 t20 t19) w K fun t21 w=>IfX t21 (dx (mIA 22 t18 t20) w K fun t22 w=>dx (mLoad 9 t22) w K fun t23 w=>cx 80 #[t23] w K fun t26 w=>dx (mExt t26 0) w K fun t27 w=>dx (mExt t26 1) w K fun t28 w=>dx (mUn .not t28) w K fun t30 w=>IfX t30 (K (.returned (.tuple #[(.slice none 0 0),(.slice none 0 0),(iN 15)])) w) (dx (mBuildS 22 1 #[(0,t27)]) w K fun t33 w=>dx (mB .append #[22,22] 22 #[false,false] #[t7,t33]) w K fun t34 w=>dx (mBin .add 3 t20 (iN 1)) w K fun t35 w=>N1 [t34,t35] w)) (dx (mB .len #[40] 3 #[false] #[t1]) w K fun t37 w=>dx (mEq .neq 3 (.tmp 37) (.const (iN 0)) t37 (iN 0)) w K fun t38 w=>etx t38 t1 w fun t40 w=>gtx t38 (mB .len #[40] 3 #[false] #[t40]) w K fun t41 w=>etx t38 t0 w fun t42 w=>gtx t38 (mB .len #[22] 3 #[false] #[t42]) w K fun t43 w=>gtx t38 (mEq .neq 3 (.tmp 41) (.tmp 43) t41 t43) w K fun t44 w=>dx (mPick t38 t44 (.bool false)) w K fun t45 w=>IfX t45 (K (.returned (.tuple #[(.slice none 0 0),(.slice none 0 0),(iN 1)])) w) (dx (mBuildS 40 0 #[]) w K fun t46 w=>dx (mB .append #[40,40] 40 #[false,false] #[t46,t1]) w K fun t48 w=>dx (mB .len #[22] 3 #[false] #[t7]) w K fun t50 w=>LoopX [t48,(iN 0)] w (fun vs2 w N2=>∀_:Sg,S_filter_may_1 t1 t7 (vs2.getD 0 undef) t7 t50 (vs2.getD 1 undef) w N2 K)))
def S_filter_may(t0 t1 w)(K:KT):=
 dx (mB .len #[22] 3 #[false] #[t0]) w K fun t16 w=>dx (mBin .gtr 3 t16 (iN 8)) w K fun t17 w=>IfX t17 (K (.returned (.tuple #[(.slice none 0 0),(.slice none 0 0),(iN 6)])) w) (dx (mB .len #[22] 3 #[false] #[t0]) w K fun t19 w=>LoopX [(.slice none 0 0),(iN 0)] w (fun vs1 w N1=>∀_:Sg,S_filter_may_0 t0 t1 (vs1.getD 0 undef) t0 t19 (vs1.getD 1 undef) w N1 K))
theorem S_filter_may_eq (t0 t1:Value)(w:World)(K:Ending→World→Prop):wpX prog 76 [(20,[12])] [(5,[7,20]),(16,[12,51])] none (bodyOf Tryz.f67) (topQ prog [.tmp 4,.tmp 5,.tmp 6] K) (startX [t0,t1]) [] w=S_filter_may t0 t1 w K:=by kernel_rfl
theorem S_filter_may_ok {t0 t1:Value}{w:World}{K:Ending→World→Prop}(h:S_filter_may t0 t1 w K):Calls prog 67 #[t0,t1] w K:=
 calls_of_wpX Tryz.func67 rfl rfl rfl rfl (Eq.mpr (S_filter_may_eq t0 t1 w K) h)
def S_filter_flate_unpack(t0 t1 w)(K:KT):=
 dx (mBox 143 t0) w K fun t2 w=>cx 192 #[t1,(iN 1048576)] w K fun t10 w=>dx (mExt t10 0) w K fun t11 w=>dx (mExt t10 1) w K fun t12 w=>dx (mEq .neq 30 (.tmp 13) (.const (iN 0)) t12 (iN 0)) w K fun t14 w=>IfX t14 (K (.returned (.tuple #[(.string ⟨#[]⟩),t12])) w) (dx (mFA 143 t2 0) w K fun t16 w=>dx (mLoad 27 t16) w K fun t17 w=>cx 193 #[t17,t11] w K fun t19 w=>dx (mExt t19 0) w K fun t20 w=>dx (mExt t19 1) w K fun t21 w=>K (.returned (.tuple #[t20,t21])) w)
theorem S_filter_flate_unpack_ok{t0 t1 w K}(h:S_filter_flate_unpack t0 t1 w K):Calls prog 122 #[t0,t1] w K:=cw Tryz.func122 rfl rfl (by kernel_rfl) h
end
section
open Eng Go.RowKit
namespace Ff
abbrev nHx:List UInt8:=[65,83,67,73,73,72,101,120,68,101,99,111,100,101]
abbrev n85:List UInt8:=[65,83,67,73,73,56,53,68,101,99,111,100,101]
abbrev nRL:List UInt8:=[82,117,110,76,101,110,103,116,104,68,101,99,111,100,101]
abbrev nFl:List UInt8:=[70,108,97,116,101,68,101,99,111,100,101]
abbrev kFilter:List UInt8:=[70,105,108,116,101,114]
abbrev kParms:List UInt8:=[68,101,99,111,100,101,80,97,114,109,115]
abbrev kPred:List UInt8:=[80,114,101,100,105,99,116,111,114]
abbrev kCols:List UInt8:=[67,111,108,111,114,115]
abbrev kColu:List UInt8:=[67,111,108,117,109,110,115]
abbrev kBits:List UInt8:=[66,105,116,115,80,101,114,67,111,109,112,111,110,101,110,116]
def full (n:List UInt8):List UInt8:=
 if n=[65,72,120]∨n=nHx then nHx
 else if n=[65,56,53]∨n=n85 then n85
 else if n=[82,76]∨n=nRL then nRL
 else if n=[70,108]∨n=nFl then nFl
 else []
def usual:Pm:=⟨1,1,1⟩
def num (o:Ob)(key:List UInt8):Int×Int:=match Vl.get o key with|none=>(1,0)|some v=>if v.k=2 then (v.n,0) else (0,10)
def parm (o:Ob):Pm×Int:=
 if o.k=0 then (usual,0)
 else if o.k=7∧(num o kPred).2=0∧(num o kCols).2=0∧(num o kColu).2=0 then (⟨(num o kPred).1,(num o kCols).1,(num o kColu).1⟩,0)
 else (⟨0,0,0⟩,10)
def eight (o:Ob):Bool:=match Vl.get o kBits with|none=>true|some v=>decide (v.k=2)&&decide (v.n=8)
theorem full_cases (n:List UInt8):full n=nHx∨full n=n85∨full n=nRL∨full n=nFl∨full n=[]:=by
 unfold full
 repeat' split
 all_goals simp
end Ff
theorem ffull_ret (n:List UInt8)(w:World):Ret prog 80 #[.string ⟨n.toArray⟩] w (fun v w'=>v=.tuple #[.string ⟨(Ff.full n).toArray⟩,.bool (decide (Ff.full n≠[]))]∧w=w'):=by
 refine ret_of fun K hK=>S_filter_full_ok ?_;unfold S_filter_full dx;refine join fun J1 h1=>join fun J2 h2=>join fun J3 h3=>join fun J4 h4=>join fun J5 h5=>?_;have fin:∀m:List UInt8,m=Ff.full n→m≠[]→J1 [.string ⟨m.toArray⟩] w:=fun m hm hne=>h1 _ _ fun _=>by
  simp only[S_filter_full_4,gd];exact hK _ _ ⟨by rw[←hm,decide_eq_true hne],rfl⟩
 have f5:∀m:List UInt8,m=Ff.full n→m≠[]→J5 [.string ⟨m.toArray⟩] w:=fun m hm hne=>h5 _ _ fun _=>by
  simp only[S_filter_full_0,gd];exact fin m hm hne
 have f4:∀m:List UInt8,m=Ff.full n→m≠[]→J4 [.string ⟨m.toArray⟩] w:=fun m hm hne=>h4 _ _ fun _=>by
  simp only[S_filter_full_1,gd];exact fin m hm hne
 have f3:∀m:List UInt8,m=Ff.full n→m≠[]→J3 [.string ⟨m.toArray⟩] w:=fun m hm hne=>h3 _ _ fun _=>by
  simp only[S_filter_full_2,gd];exact fin m hm hne
 have f2:∀m:List UInt8,m=Ff.full n→m≠[]→J2 [.string ⟨m.toArray⟩] w:=fun m hm hne=>h2 _ _ fun _=>by
  simp only[S_filter_full_3,gd];exact fin m hm hne
 clear h1 h2 h3 h4 h5 fin;rw[e_str];by_cases c1:n=[65,72,120]
 ·rw[decide_eq_true c1,i_t];exact f5 _ (by unfold Ff.full;rw[if_pos (.inl c1)]) (by decide)
 rw[decide_eq_false c1,i_f,e_str];by_cases c2:n=Ff.nHx
 ·rw[decide_eq_true c2,i_t];exact f5 _ (by unfold Ff.full;rw[if_pos (.inr c2),c2]) (by rw[c2];decide)
 rw[decide_eq_false c2,i_f,e_str];by_cases c3:n=[65,56,53]
 ·rw[decide_eq_true c3,i_t];exact f4 _ (by unfold Ff.full;rw[if_neg (by simp[c1,c2]),if_pos (.inl c3)]) (by decide)
 rw[decide_eq_false c3,i_f,e_str];by_cases c4:n=Ff.n85
 ·rw[decide_eq_true c4,i_t];exact f4 _ (by unfold Ff.full;rw[if_neg (by simp[c1,c2]),if_pos (.inr c4),c4]) (by rw[c4];decide)
 rw[decide_eq_false c4,i_f,e_str];by_cases c5:n=[82,76]
 ·rw[decide_eq_true c5,i_t];exact f3 _ (by unfold Ff.full;rw[if_neg (by simp[c1,c2]),if_neg (by simp[c3,c4]),if_pos (.inl c5)]) (by decide)
 rw[decide_eq_false c5,i_f,e_str];by_cases c6:n=Ff.nRL
 ·rw[decide_eq_true c6,i_t];exact f3 _ (by unfold Ff.full;rw[if_neg (by simp[c1,c2]),if_neg (by simp[c3,c4]),if_pos (.inr c6),c6]) (by rw[c6];decide)
 rw[decide_eq_false c6,i_f,e_str];by_cases c7:n=[70,108]
 ·rw[decide_eq_true c7,i_t];exact f2 _ (by unfold Ff.full;rw[if_neg (by simp[c1,c2]),if_neg (by simp[c3,c4]),if_neg (by simp[c5,c6]),if_pos (.inl c7)]) (by decide)
 rw[decide_eq_false c7,i_f,e_str];by_cases c8:n=Ff.nFl
 ·rw[decide_eq_true c8,i_t];exact f2 _ (by unfold Ff.full;rw[if_neg (by simp[c1,c2]),if_neg (by simp[c3,c4]),if_neg (by simp[c5,c6]),if_pos (.inr c8),c8]) (by rw[c8];decide)
 rw[decide_eq_false c8,i_f];have e:Ff.full n=[]:=by unfold Ff.full;rw[if_neg (by simp[c1,c2]),if_neg (by simp[c3,c4]),if_neg (by simp[c5,c6]),if_neg (by simp[c7,c8])]
 exact hK _ _ ⟨by rw[e];rfl,rfl⟩
theorem fknown_ret (n:List UInt8)(w:World):Ret prog 52 #[.string ⟨n.toArray⟩] w (fun v w'=>v=.bool (decide (Ff.full n≠[]))∧w=w'):=by
 refine ret_of fun K hK=>S_filter_Known_ok ?_;unfold S_filter_Known dx cx;refine c_eq (ffull_ret n w) ?_;simp only[ex];exact hK _ _ ⟨rfl,rfl⟩
theorem m_pm3 {w:World}{PK:PKT}{K:VWP}{a b c:Int}:DoX prog (mBuild 27 #[(0,.int .i64 a),(1,.int .i64 b),(2,.int .i64 c)]) w PK K=K (pmV ⟨a,b,c⟩) w:=do_eq (by kernel_rfl)
theorem o_pma {w:World}{PK:PKT}{K:VWP}{S:Nat→Prop}{w0:World}{L:List Ent}(ho:OwnS S w0 w L)(k:∀b w',OwnS S w0 w' (pmE b ⟨0,0,0⟩::L)→K (.pointer (some ⟨b,0,none⟩)) w'):DoX prog (mAlloc 27) w PK K:=
 o_new (fun b=>.pointer (some ⟨b,0,none⟩)) (pmC ⟨0,0,0⟩) 27 (fun _=>by kernel_rfl) ho k
theorem pm_put {w:World}{PK:PKT}{K:VWP}{S:Nat→Prop}{w0:World}{L:List Ent}(i:Nat){b:Nat}{x:Pm}(y:Pm)(ho:OwnS S w0 w L)(hi:L[i]?=some (pmE b x))(k:∀w',OwnS S w0 w' (L.set i (pmE b y))→K undef w'):DoX prog (mStore 27 (.pointer (some ⟨b,0,none⟩)) (pmV y)) w PK K:=
 o_put i ho hi szPm pmC_one rfl k
theorem fusual_ret (w:World):Ret prog 135 #[] w (fun v w'=>v=pmV Ff.usual∧Below w.heap.size w w'):=by
 refine ret_of fun K hK=>S_filter_usual_ok ?_;unfold S_filter_usual iN dx;refine o_pma (Own.start w) fun b w1 ho=>?_;rw[m_pm3];refine pm_put 0 Ff.usual ho rfl fun w2 ho=>?_;exact ret_v1 (rv_cell (ho.agg 0 rfl aggPm)) (hK _ _ ⟨rfl,ho.done⟩)
theorem nfUpF:notIface prog 107=true:=by kernel_rfl
def upF (e:Int):PanicEntry:={ v:=.iface 107 (.agg #[.int .i64 e]),recovered:=false }
theorem fmust_t (e:Int)(w:World):Ret prog 78 #[.bool true,.int .i64 e] w (fun v w'=>v=.tuple #[]∧w=w'):=by
 refine ret_of fun K hK=>S_filter_must_ok ?_;unfold S_filter_must dx;simp only[rs,Bool.not_true,i_f];exact hK _ _ ⟨rfl,rfl⟩
theorem fmust_f (e:Int)(w:World):Pan prog 78 #[.bool false,.int .i64 e] w (fun c w'=>c=[upF e]∧w=w'):=by
 refine pan_of fun K hK=>S_filter_must_ok ?_;unfold S_filter_must dx;simp only[rs,Bool.not_false,i_t];have hb:∀{PK:PKT} {K:VWP},DoX prog (mBuild 107 #[(0,.int .i64 e)]) w PK K=K (.agg #[.int .i64 e]) w:=do_eq (by kernel_rfl);rw[hb,m_iface nfUpF,m_panic];exact hK _ _ ⟨rfl,rfl⟩
section
variable {w:World}{PK:PKT}{K:VWP}{S:Nat→Prop}{w0:World}{L:List Ent}
theorem c_fmustQ {q:Bool}{e:Int}(kt:q=true→K (.tuple #[]) w)(kf:q=false→PK [upF e] w):CallX prog 78 #[.bool q,.int .i64 e] w PK K:=by
 cases q with
|true=>exact c_eq (fmust_t e w) (kt rfl)
|false=>exact c_pan (fmust_f e w) fun c w' ⟨hc,hw⟩=>by subst hc;subst hw;exact kf rfl
theorem c_fnum {o:Ob}{v:Value}{key:List UInt8}{M:Mem}(ho:OwnS S w0 w (.mem M::L))(hw:o.wt≤100000000000)(hv:OV M.A M.w v o)
  (kt:(Ff.num o key).2=0→∀N W,M.le N→OwnS S w0 W (.mem N::L)→K (.int .i64 (Ff.num o key).1) W)
  (kf:(Ff.num o key).2≠0→∀N W,M.le N→OwnS S w0 W (.mem N::L)→PK [upF 10] W):CallX prog 208 #[v,.string ⟨key.toArray⟩] w PK K:=by
 obtain⟨vk,vc,cs,rfl,ha⟩:=hv.open;generalize hX:Ff.num o key=X at kt kf;unfold Ff.num at hX;refine⟨S_filter_number_ok ?_⟩;unfold S_filter_number iN dx cx;refine o_obb o ha.keys.one ha.kids.one ho fun b2 w1 ho=>?_;rw[ob_v ho 0 rfl];refine c_mem ho 1 rfl (vget_ret o _ key M w1 hw (ho.hasM 1 rfl) hv) ?_;rintro _ N w2 hle ⟨t,rfl,ht⟩ ho;obtain⟨tk,tc,rfl,ht⟩:=getD_ov ht;simp only[getV,ex];refine o_oba ho fun b5 w4 ho=>?_;refine ob_put 0 ht.oneK ht.oneC ho rfl fun w5 ho=>?_;have drop:∀{W:World} {e f:Ent},OwnS S w0 W (e::f::.mem N::L)→OwnS S w0 W (.mem N::L):=fun ho=>ho.tail.tail;have ho:OwnS S w0 w5 (obE b5 ((Vl.get o key).getD Vl.ob0) tk tc::obE b2 o vk vc::.mem N::L):=ho;cases hg:Vl.get o key with
|none=>
  rw[hg] at hX ho;simp only[Option.isSome_none,rs,Bool.not_false,i_t];rw[←hX] at kt;exact kt rfl N w5 hle (drop ho)
|some x=>
  rw[hg] at hX ho;dsimp only at hX;rw[Option.getD_some] at ho;simp only[Option.isSome_some,rs,Bool.not_true,i_f];rw[fa_o0,ob_k ho 0 rfl];simp only[rs];refine c_fmustQ (fun h=>?_) (fun h=>?_)
  ·have h:=of_decide_eq_true h;rw[if_pos h] at hX;rw[fa_o1,ob_n ho 0 rfl];rw[←hX] at kt;exact kt rfl N w5 hle (drop ho)
  ·have h:=of_decide_eq_false h;rw[if_neg h] at hX;rw[←hX] at kf;exact kf (by decide) N w5 hle (drop ho)
theorem c_fone {o:Ob}{v:Value}{M:Mem}(ho:OwnS S w0 w (.mem M::L))(hw:o.wt≤100000000000)(hv:OV M.A M.w v o)
  (kt:(Ff.parm o).2=0→∀N W,M.le N→OwnS S w0 W (.mem N::L)→K (pmV (Ff.parm o).1) W)
  (kf:(Ff.parm o).2=10→∀N W,M.le N→OwnS S w0 W (.mem N::L)→PK [upF 10] W):CallX prog 147 #[v] w PK K:=by
 obtain⟨vk,vc,cs,rfl,ha⟩:=hv.open;generalize hX:Ff.parm o=X at kt kf;unfold Ff.parm at hX;refine⟨S_filter_one_ok ?_⟩;unfold S_filter_one iN dx cx;refine o_obb o ha.keys.one ha.kids.one ho fun b1 w1 ho=>?_;refine o_pma ho fun b2 w2 ho=>?_;rw[fa_o0,ob_k ho 1 rfl];simp only[rs];by_cases h0:o.k=0
 ·rw[if_pos h0] at hX;simp only[h0,decide_true,i_t];refine c_below ho (fusual_ret w2) ?_;rintro _ w3 rfl ho;refine pm_put 0 Ff.usual ho rfl fun w4 ho=>?_;rw[←hX] at kt;exact ret_v1 (rv_cell (ho.agg 0 rfl aggPm)) (kt rfl M w4 M.le_refl ho.tail.tail)
 rw[if_neg h0] at hX;simp only[h0,decide_false,i_f];rw[fa_o0,ob_k ho 1 rfl];simp only[rs];have bad:∀{N W},¬(o.k=7∧(Ff.num o Ff.kPred).2=0∧(Ff.num o Ff.kCols).2=0∧(Ff.num o Ff.kColu).2=0)→M.le N→OwnS S w0 W (.mem N::L)→PK [upF 10] W:=by
  intro N W h hle ho;rw[if_neg h] at hX;rw[←hX] at kf;exact kf rfl N W hle ho
 refine c_fmustQ (fun h7=>?_) (fun h7=>bad (fun k=>(of_decide_eq_false h7) k.1) M.le_refl ho.tail.tail);have h7:=of_decide_eq_true h7;have ho:=ho.drew;refine⟨fun W=>(obE b1 o vk vc).is W,ho.at_ 1 rfl,?_⟩;have ld:∀W,(obE b1 o vk vc).is W→(mLoad 25 (.pointer (some ⟨b1,0,none⟩))).run prog W=.ok (.value (obV o vk vc)) W:=fun W h=>run_load_at (AtV.agg aggOb (cs:=obC o vk vc) rfl fun j u hj=>by rw[Nat.zero_add];exact cells_cell (T:=25) h hj);refine hd_do _ ld (hd_do _ ld (hd_do _ ld ?_));have fr:∀{W:World} {N:Mem},OwnS S w0 W (pmE b2 ⟨0,0,0⟩::obE b1 o vk vc::.mem N::L)→OwnS S w0 W (.mem N::pmE b2 ⟨0,0,0⟩::obE b1 o vk vc::L):=fun {W N} ho=>by
  have ho:OwnS S w0 W ([pmE b2 ⟨0,0,0⟩,obE b1 o vk vc]++([.mem N]++L)):=ho;exact ho.front
 have bk:∀{W:World} {N:Mem} {x:Pm},OwnS S w0 W (.mem N::pmE b2 x::obE b1 o vk vc::L)→OwnS S w0 W (.mem N::L):=fun {W N x} ho=>ho.sub (.cons_cons _ (.cons _ (.cons _ (List.Sublist.refl _))));refine c_fnum (fr ho) hw hv (fun e1 N1 W1 l1 ho=>?_) (fun e1 N1 W1 l1 ho=>fun _ _ _ _=>bad (fun k=>e1 k.2.1) l1 (bk ho));refine⟨ho.at_ 2 rfl,?_⟩;refine c_fnum ho hw (hv.le l1) (fun e2 N2 W2 l2 ho=>?_) (fun e2 N2 W2 l2 ho=>fun _ _ _ _=>bad (fun k=>e2 k.2.2.1) (l1.trans l2) (bk ho));refine⟨ho.at_ 2 rfl,?_⟩;refine c_fnum ho hw ((hv.le l1).le l2) (fun e3 N3 W3 l3 ho=>?_) (fun e3 N3 W3 l3 ho=>fun _ _ _ _=>bad (fun k=>e3 k.2.2.2) ((l1.trans l2).trans l3) (bk ho));refine⟨ho.at_ 2 rfl,?_⟩;rw[if_pos ⟨h7,e1,e2,e3⟩] at hX;refine hd_pure (pmV ⟨(Ff.num o Ff.kPred).1,(Ff.num o Ff.kCols).1,(Ff.num o Ff.kColu).1⟩) (fun _=>by kernel_rfl) ?_;refine pm_put 1 _ ho rfl fun w4 ho=>?_;rw[←hX] at kt;exact ret_v1 (rv_cell (ho.agg 1 rfl aggPm)) (kt rfl N3 w4 ((l1.trans l2).trans l3) (bk ho))
end
theorem feight_ret (o:Ob)(v:Value)(M:Mem)(w:World)(hw:o.wt≤100000000000)(hM:M.has w)(hv:OV M.A M.w v o):RetM prog 148 #[v] M w (fun r _=>r=.bool (Ff.eight o)):=by
 obtain⟨vk,vc,cs,rfl,ha⟩:=hv.open;refine retM_of hM fun K hK=>S_filter_eight_ok ?_;generalize hX:Ff.eight o=X at hK;unfold Ff.eight at hX;unfold S_filter_eight iN dx gtx gfx efx cx;refine o_obb o ha.keys.one ha.kids.one (OwnS.memS hM) fun b2 w1 ho=>?_;rw[ob_v ho 0 rfl];refine c_mem ho 1 rfl (vget_ret o _ Ff.kBits M w1 hw (ho.hasM 1 rfl) hv) ?_;rintro _ N w2 hle ⟨t,rfl,ht⟩ ho;obtain⟨tk,tc,rfl,ht⟩:=getD_ov ht;simp only[getV,ex];refine o_oba ho fun b5 w4 ho=>?_;refine ob_put 0 ht.oneK ht.oneC ho rfl fun w5 ho=>?_;have ho:OwnS M.A w w5 [obE b5 ((Vl.get o Ff.kBits).getD Vl.ob0) tk tc,obE b2 o vk vc,.mem N]:=ho;cases hg:Vl.get o Ff.kBits with
|none=>
  rw[hg] at hX ho;simp only[Option.isSome_none,rs,Bool.not_false,g_un,i_t];exact hK _ _ N _ 2 ho rfl hle (by rw[←hX])
|some x=>
  rw[hg] at hX ho;dsimp only at hX;rw[Option.getD_some] at ho;simp only[Option.isSome_some,rs,Bool.not_true];rw[fa_o0,ob_k ho 0 rfl];simp only[rs];by_cases h2:x.k=2
  ·simp only[h2,decide_true,rs];rw[fa_o1,ob_n ho 0 rfl];simp only[rs];exact hK _ _ N _ 2 ho rfl hle (by rw[←hX,h2];rfl)
  ·simp only[h2,decide_false,rs,g_un];exact hK _ _ N _ 2 ho rfl hle (by rw[←hX,decide_eq_false h2];rfl)
end
section
open Eng
def S_foliantref16_Full(t0 w)(K:KT):=
 dx (mEq .eql 9 (.tmp 3) (.const (.string ⟨#[65,83,67,73,73,72,101,120,68,101,99,111,100,101]⟩)) t0 (.string ⟨#[65,83,67,73,73,72,101,120,68,101,99,111,100,101]⟩)) w K fun t4 w=>efx t4 t0 w fun t6 w=>gfx t4 (mEq .eql 9 (.tmp 6) (.const (.string ⟨#[65,72,120]⟩)) t6 (.string ⟨#[65,72,120]⟩)) w K fun t7 w=>dx (mPick t4 (.bool true) t7) w K fun t8 w=>IfX t8 (K (.returned (.string ⟨#[65,83,67,73,73,72,101,120,68,101,99,111,100,101]⟩)) w) (dx (mEq .eql 9 (.tmp 9) (.const (.string ⟨#[65,83,67,73,73,56,53,68,101,99,111,100,101]⟩)) t0 (.string ⟨#[65,83,67,73,73,56,53,68,101,99,111,100,101]⟩)) w K fun t10 w=>efx t10 t0 w fun t12 w=>gfx t10 (mEq .eql 9 (.tmp 12) (.const (.string ⟨#[65,56,53]⟩)) t12 (.string ⟨#[65,56,53]⟩)) w K fun t13 w=>dx (mPick t10 (.bool true) t13) w K fun t14 w=>IfX t14 (K (.returned (.string ⟨#[65,83,67,73,73,56,53,68,101,99,111,100,101]⟩)) w) (dx (mEq .eql 9 (.tmp 15) (.const (.string ⟨#[82,117,110,76,101,110,103,116,104,68,101,99,111,100,101]⟩)) t0 (.string ⟨#[82,117,110,76,101,110,103,116,104,68,101,99,111,100,101]⟩)) w K fun t16 w=>efx t16 t0 w fun t18 w=>gfx t16 (mEq .eql 9 (.tmp 18) (.const (.string ⟨#[82,76]⟩)) t18 (.string ⟨#[82,76]⟩)) w K fun t19 w=>dx (mPick t16 (.bool true) t19) w K fun t20 w=>IfX t20 (K (.returned (.string ⟨#[82,117,110,76,101,110,103,116,104,68,101,99,111,100,101]⟩)) w) (dx (mEq .eql 9 (.tmp 21) (.const (.string ⟨#[70,108,97,116,101,68,101,99,111,100,101]⟩)) t0 (.string ⟨#[70,108,97,116,101,68,101,99,111,100,101]⟩)) w K fun t22 w=>efx t22 t0 w fun t24 w=>gfx t22 (mEq .eql 9 (.tmp 24) (.const (.string ⟨#[70,108]⟩)) t24 (.string ⟨#[70,108]⟩)) w K fun t25 w=>dx (mPick t22 (.bool true) t25) w K fun t26 w=>IfX t26 (K (.returned (.string ⟨#[70,108,97,116,101,68,101,99,111,100,101]⟩)) w) (K (.returned (.string ⟨#[]⟩)) w))))
theorem S_foliantref16_Full_ok{t0 w K}(h:S_foliantref16_Full t0 w K):Calls prog 19 #[t0] w K:=cw Tryz.func19 rfl rfl (by kernel_rfl) h
def S_foliantref16_Known(t0 w)(K:KT):=
 cx 19 #[t0] w K fun t4 w=>dx (mEq .neq 9 (.tmp 4) (.const (.string ⟨#[]⟩)) t4 (.string ⟨#[]⟩)) w K fun t5 w=>K (.returned t5) w
theorem S_foliantref16_Known_ok{t0 w K}(h:S_foliantref16_Known t0 w K):Calls prog 18 #[t0] w K:=cw Tryz.func18 rfl rfl (by kernel_rfl) h
def S_foliantref16_Usual(w)(K:KT):=
 dx (mAlloc 27) w K fun t0 w=>dx (mBuild 27 #[(0,(iN 1)),(1,(iN 1)),(2,(iN 1))]) w K fun t1 w=>dx (mStore 27 t0 t1) w K fun _ w=>RetX prog [.cell t0 27] w K
theorem S_foliantref16_Usual_ok{w K}(h:S_foliantref16_Usual w K):Calls prog 72 #[] w K:=cw Tryz.func72 rfl rfl (by kernel_rfl) h
def S_foliantref16_names_2(t6 t8 t9 w)(N3:JT)(K:KT):=
 dx (mB .len #[23] 3 #[false] #[t6]) w K fun t44 w=>dx (mBin .lss 3 t9 t44) w K fun t45 w=>IfX t45 (dx (mIA 23 t6 t9) w K fun t50 w=>dx (mFA 25 t50 3) w K fun t51 w=>dx (mLoad 9 t51) w K fun t52 w=>cx 18 #[t52] w K fun t53 w=>dx (mUn .not t53) w K fun t54 w=>IfX t54 (K (.returned (.tuple #[(.slice none 0 0),(iN 15)])) w) (dx (mIA 23 t6 t9) w K fun t58 w=>dx (mFA 25 t58 3) w K fun t59 w=>dx (mLoad 9 t59) w K fun t60 w=>cx 19 #[t60] w K fun t61 w=>dx (mBuildS 22 1 #[(0,t61)]) w K fun t62 w=>dx (mB .append #[22,22] 22 #[false,false] #[t8,t62]) w K fun t63 w=>dx (mBin .add 3 t9 (iN 1)) w K fun t47 w=>N3 [t63,t47] w)) (K (.returned (.tuple #[t8,(iN 0)])) w)
def S_foliantref16_names_1(t6 t7 w)(N2:JT)(K:KT):=
 dx (mB .len #[23] 3 #[false] #[t6]) w K fun t29 w=>dx (mBin .lss 3 t7 t29) w K fun t30 w=>IfX t30 (dx (mIA 23 t6 t7) w K fun t35 w=>dx (mFA 25 t35 0) w K fun t36 w=>dx (mLoad 3 t36) w K fun t37 w=>dx (mEq .neq 3 (.tmp 37) (.const (iN 5)) t37 (iN 5)) w K fun t38 w=>IfX t38 (K (.returned (.tuple #[(.slice none 0 0),(iN 10)])) w) (dx (mBin .add 3 t7 (iN 1)) w K fun t32 w=>N2 [t32] w)) (dx (mB .len #[23] 3 #[false] #[t6]) w K fun t40 w=>dx (mBin .gtr 3 t40 (iN 8)) w K fun t41 w=>IfX t41 (K (.returned (.tuple #[(.slice none 0 0),(iN 6)])) w) (LoopX [(.slice none 0 0),(iN 0)] w (fun vs3 w N3=>∀_:Sg,S_foliantref16_names_2 t6 (vs3.getD 0 undef) (vs3.getD 1 undef) w N3 K)))
def S_foliantref16_names_0(t6 w)(K:KT):=
 LoopX [(iN 0)] w (fun vs2 w N2=>∀_:Sg,S_foliantref16_names_1 t6 (vs2.getD 0 undef) w N2 K)
def S_foliantref16_names(t0 w)(K:KT):=
 dx (mBox 25 t0) w K fun t1 w=>dx (mLoad 25 t1) w K fun t11 w=>cx 33 #[t11,(.string ⟨#[70,105,108,116,101,114]⟩)] w K fun t12 w=>dx (mExt t12 0) w K fun t13 w=>dx (mExt t12 1) w K fun t14 w=>dx (mAlloc 25) w K fun t4 w=>dx (mStore 25 t4 t13) w K fun _ w=>dx (mFA 25 t4 5) w K fun t15 w=>dx (mLoad 23 t15) w K fun t16 w=>dx (mUn .not t14) w K fun t18 w=>IfX t18 (K (.returned (.tuple #[(.slice none 0 0),(iN 0)])) w) (JoinX (fun J1=>dx (mFA 25 t4 0) w K fun t19 w=>dx (mLoad 3 t19) w K fun t20 w=>dx (mEq .eql 3 (.tmp 20) (.const (iN 5)) t20 (iN 5)) w K fun t21 w=>IfX t21 (dx (mLoad 25 t4) w K fun t22 w=>dx (mBuildS 23 1 #[(0,t22)]) w K fun t23 w=>J1 [t23] w) (dx (mFA 25 t4 0) w K fun t24 w=>dx (mLoad 3 t24) w K fun t25 w=>dx (mEq .neq 3 (.tmp 25) (.const (iN 6)) t25 (iN 6)) w K fun t26 w=>IfX t26 (K (.returned (.tuple #[(.slice none 0 0),(iN 10)])) w) (J1 [t16] w))) (fun vs1 w=>∀_:Sg,S_foliantref16_names_0 (vs1.getD 0 undef) w K))
theorem S_foliantref16_names_eq (t0:Value)(w:World)(K:Ending→World→Prop):wpX prog 65 [(9,[6])] [(10,[7]),(18,[8,9])] none (bodyOf Tryz.f110) (topQ prog [.tmp 2,.tmp 3] K) (startX [t0]) [] w=S_foliantref16_names t0 w K:=by kernel_rfl
theorem S_foliantref16_names_ok {t0:Value}{w:World}{K:Ending→World→Prop}(h:S_foliantref16_names t0 w K):Calls prog 110 #[t0] w K:=
 calls_of_wpX Tryz.func110 rfl rfl rfl rfl (Eq.mpr (S_foliantref16_names_eq t0 w K) h)
def S_foliantref16_number(t0 t1 w)(K:KT):=
 dx (mBox 25 t0) w K fun t2 w=>dx (mLoad 25 t2) w K fun t9 w=>cx 33 #[t9,t1] w K fun t11 w=>dx (mExt t11 0) w K fun t12 w=>dx (mExt t11 1) w K fun t13 w=>dx (mAlloc 25) w K fun t6 w=>dx (mStore 25 t6 t12) w K fun _ w=>dx (mUn .not t13) w K fun t15 w=>IfX t15 (K (.returned (.tuple #[(iN 1),(iN 0)])) w) (dx (mFA 25 t6 0) w K fun t16 w=>dx (mLoad 3 t16) w K fun t17 w=>dx (mEq .neq 3 (.tmp 17) (.const (iN 2)) t17 (iN 2)) w K fun t18 w=>IfX t18 (K (.returned (.tuple #[(iN 0),(iN 10)])) w) (dx (mFA 25 t6 1) w K fun t19 w=>dx (mLoad 2 t19) w K fun t20 w=>K (.returned (.tuple #[t20,(iN 0)])) w))
theorem S_foliantref16_number_ok{t0 t1 w K}(h:S_foliantref16_number t0 t1 w K):Calls prog 170 #[t0,t1] w K:=cw Tryz.func170 rfl rfl (by kernel_rfl) h
def S_foliantref16_parm(t0 w)(K:KT):=
 dx (mBox 25 t0) w K fun t1 w=>dx (mAlloc 27) w K fun t2 w=>dx (mFA 25 t1 0) w K fun t10 w=>dx (mLoad 3 t10) w K fun t11 w=>dx (mEq .eql 3 (.tmp 11) (.const (iN 0)) t11 (iN 0)) w K fun t12 w=>IfX t12 (cx 72 #[] w K fun t13 w=>dx (mStore 27 t2 t13) w K fun _ w=>RetX prog [.cell t2 27,.val (iN 0)] w K) (dx (mLoad 25 t1) w K fun t15 w=>cx 170 #[t15,(.string ⟨#[80,114,101,100,105,99,116,111,114]⟩)] w K fun t16 w=>dx (mExt t16 0) w K fun t17 w=>dx (mExt t16 1) w K fun t18 w=>dx (mLoad 25 t1) w K fun t20 w=>cx 170 #[t20,(.string ⟨#[67,111,108,111,114,115]⟩)] w K fun t21 w=>dx (mExt t21 0) w K fun t22 w=>dx (mExt t21 1) w K fun t23 w=>dx (mLoad 25 t1) w K fun t25 w=>cx 170 #[t25,(.string ⟨#[67,111,108,117,109,110,115]⟩)] w K fun t26 w=>dx (mExt t26 0) w K fun t27 w=>dx (mExt t26 1) w K fun t28 w=>dx (mFA 25 t1 0) w K fun t29 w=>dx (mLoad 3 t29) w K fun t30 w=>dx (mEq .neq 3 (.tmp 30) (.const (iN 7)) t30 (iN 7)) w K fun t31 w=>efx t31 t18 w fun t33 w=>gfx t31 (mEq .neq 30 (.tmp 33) (.const (iN 0)) t33 (iN 0)) w K fun t34 w=>dx (mPick t31 (.bool true) t34) w K fun t35 w=>efx t35 t23 w fun t37 w=>gfx t35 (mEq .neq 30 (.tmp 37) (.const (iN 0)) t37 (iN 0)) w K fun t38 w=>dx (mPick t35 (.bool true) t38) w K fun t39 w=>efx t39 t28 w fun t41 w=>gfx t39 (mEq .neq 30 (.tmp 41) (.const (iN 0)) t41 (iN 0)) w K fun t42 w=>dx (mPick t39 (.bool true) t42) w K fun t43 w=>IfX t43 (dx (mBuild 27 #[]) w K fun t44 w=>dx (mStore 27 t2 t44) w K fun _ w=>RetX prog [.cell t2 27,.val (iN 10)] w K) (dx (mBuild 27 #[(0,t17),(1,t22),(2,t27)]) w K fun t48 w=>dx (mStore 27 t2 t48) w K fun _ w=>RetX prog [.cell t2 27,.val (iN 0)] w K))
theorem S_foliantref16_parm_ok{t0 w K}(h:S_foliantref16_parm t0 w K):Calls prog 111 #[t0] w K:=cw Tryz.func111 rfl rfl (by kernel_rfl) h
def S_foliantref16_wide(t0 w)(K:KT):=
 dx (mBox 25 t0) w K fun t1 w=>dx (mLoad 25 t1) w K fun t6 w=>cx 33 #[t6,(.string ⟨#[66,105,116,115,80,101,114,67,111,109,112,111,110,101,110,116]⟩)] w K fun t7 w=>dx (mExt t7 0) w K fun t8 w=>dx (mExt t7 1) w K fun t9 w=>dx (mAlloc 25) w K fun t3 w=>dx (mStore 25 t3 t8) w K fun _ w=>gtx t9 (mFA 25 t3 0) w K fun t12 w=>gtx t9 (mLoad 3 t12) w K fun t13 w=>gtx t9 (mEq .neq 3 (.tmp 13) (.const (iN 2)) t13 (iN 2)) w K fun t14 w=>etx t9 t14 w fun t15 w=>gfx t15 (mFA 25 t3 1) w K fun t16 w=>gfx t15 (mLoad 2 t16) w K fun t17 w=>gfx t15 (mEq .neq 2 (.tmp 17) (.const (iN 8)) t17 (iN 8)) w K fun t18 w=>gtx t9 (mPick t15 (.bool true) t18) w K fun t19 w=>dx (mPick t9 t19 (.bool false)) w K fun t20 w=>K (.returned t20) w
theorem S_foliantref16_wide_ok{t0 w K}(h:S_foliantref16_wide t0 w K):Calls prog 112 #[t0] w K:=cw Tryz.func112 rfl rfl (by kernel_rfl) h
def S_foliantref16_Of_4(t5 t10 t15 w)(N5:JT)(K:KT):=
 dx (mB .len #[40] 3 #[false] #[t10]) w K fun t97 w=>dx (mBin .lss 3 t15 t97) w K fun t98 w=>IfX t98 (dx (mIA 40 t10 t15) w K fun t103 w=>dx (mLoad 27 t103) w K fun t104 w=>cx 58 #[t104] w K fun t105 w=>dx (mEq .neq 30 (.tmp 106) (.const (iN 0)) t105 (iN 0)) w K fun t107 w=>IfX t107 (K (.returned (.tuple #[(.slice none 0 0),(.slice none 0 0),t105])) w) (dx (mBin .add 3 t15 (iN 1)) w K fun t100 w=>N5 [t100] w)) (K (.returned (.tuple #[t5,t10,(iN 0)])) w)
def S_foliantref16_Of_3(t5 t10 w)(N4:JT)(K:KT):=
 dx (mB .len #[40] 3 #[false] #[t10]) w K fun t87 w=>dx (mB .len #[22] 3 #[false] #[t5]) w K fun t89 w=>dx (mBin .lss 3 t87 t89) w K fun t90 w=>IfX t90 (cx 72 #[] w K fun t92 w=>dx (mBuildS 40 1 #[(0,t92)]) w K fun t93 w=>dx (mB .append #[40,40] 40 #[false,false] #[t10,t93]) w K fun t94 w=>N4 [t94] w) (LoopX [(iN 0)] w (fun vs5 w N5=>∀_:Sg,S_foliantref16_Of_4 t5 t10 (vs5.getD 0 undef) w N5 K))
def S_foliantref16_Of_2(t5 t9 t10 t14 w)(N3:JT)(K:KT):=
 dx (mB .len #[23] 3 #[false] #[t9]) w K fun t77 w=>dx (mBin .lss 3 t14 t77) w K fun t78 w=>IfX t78 (dx (mIA 23 t9 t14) w K fun t83 w=>dx (mLoad 25 t83) w K fun t84 w=>cx 112 #[t84] w K fun t85 w=>IfX t85 (K (.returned (.tuple #[(.slice none 0 0),(.slice none 0 0),(iN 1)])) w) (dx (mBin .add 3 t14 (iN 1)) w K fun t80 w=>N3 [t80] w)) (LoopX [t10] w (fun vs4 w N4=>∀_:Sg,S_foliantref16_Of_3 t5 (vs4.getD 0 undef) w N4 K))
def S_foliantref16_Of_1(t5 t9 t10 t11 w)(N2:JT)(K:KT):=
 dx (mB .len #[23] 3 #[false] #[t9]) w K fun t51 w=>dx (mBin .lss 3 t11 t51) w K fun t52 w=>IfX t52 (dx (mIA 23 t9 t11) w K fun t58 w=>dx (mLoad 25 t58) w K fun t59 w=>cx 111 #[t59] w K fun t60 w=>dx (mExt t60 0) w K fun t61 w=>dx (mExt t60 1) w K fun t62 w=>dx (mAlloc 27) w K fun t12 w=>dx (mStore 27 t12 t61) w K fun _ w=>dx (mEq .neq 30 (.tmp 63) (.const (iN 0)) t62 (iN 0)) w K fun t64 w=>IfX t64 (K (.returned (.tuple #[(.slice none 0 0),(.slice none 0 0),t62])) w) (dx (mLoad 27 t12) w K fun t67 w=>dx (mBuildS 40 1 #[(0,t67)]) w K fun t68 w=>dx (mB .append #[40,40] 40 #[false,false] #[t10,t68]) w K fun t69 w=>dx (mBin .add 3 t11 (iN 1)) w K fun t54 w=>N2 [t69,t54] w)) (dx (mB .len #[40] 3 #[false] #[t10]) w K fun t71 w=>dx (mB .len #[22] 3 #[false] #[t5]) w K fun t73 w=>dx (mBin .gtr 3 t71 t73) w K fun t74 w=>IfX t74 (K (.returned (.tuple #[(.slice none 0 0),(.slice none 0 0),(iN 1)])) w) (LoopX [(iN 0)] w (fun vs3 w N3=>∀_:Sg,S_foliantref16_Of_2 t5 t9 t10 (vs3.getD 0 undef) w N3 K)))
def S_foliantref16_Of_0(t5 t9 w)(K:KT):=
 LoopX [(.slice none 0 0),(iN 0)] w (fun vs2 w N2=>∀_:Sg,S_foliantref16_Of_1 t5 t9 (vs2.getD 0 undef) (vs2.getD 1 undef) w N2 K)
def S_foliantref16_Of(t0 w)(K:KT):=
 dx (mBox 25 t0) w K fun t1 w=>dx (mFA 25 t1 0) w K fun t17 w=>dx (mLoad 3 t17) w K fun t18 w=>dx (mEq .neq 3 (.tmp 18) (.const (iN 9)) t18 (iN 9)) w K fun t19 w=>IfX t19 (K (.returned (.tuple #[(.slice none 0 0),(.slice none 0 0),(iN 10)])) w) (dx (mLoad 25 t1) w K fun t21 w=>cx 110 #[t21] w K fun t22 w=>dx (mExt t22 0) w K fun t23 w=>dx (mExt t22 1) w K fun t24 w=>dx (mEq .neq 30 (.tmp 25) (.const (iN 0)) t24 (iN 0)) w K fun t26 w=>IfX t26 (K (.returned (.tuple #[(.slice none 0 0),(.slice none 0 0),t24])) w) (dx (mLoad 25 t1) w K fun t29 w=>cx 33 #[t29,(.string ⟨#[68,101,99,111,100,101,80,97,114,109,115]⟩)] w K fun t30 w=>dx (mExt t30 0) w K fun t31 w=>dx (mExt t30 1) w K fun t32 w=>dx (mAlloc 25) w K fun t7 w=>dx (mStore 25 t7 t31) w K fun _ w=>dx (mFA 25 t7 5) w K fun t33 w=>dx (mLoad 23 t33) w K fun t34 w=>JoinX (fun J1=>gtx t32 (mFA 25 t7 0) w K fun t37 w=>gtx t32 (mLoad 3 t37) w K fun t38 w=>gtx t32 (mEq .eql 3 (.tmp 38) (.const (iN 7)) t38 (iN 7)) w K fun t39 w=>dx (mPick t32 t39 (.bool false)) w K fun t40 w=>IfX t40 (dx (mLoad 25 t7) w K fun t41 w=>dx (mBuildS 23 1 #[(0,t41)]) w K fun t42 w=>J1 [t42] w) (gtx t32 (mFA 25 t7 0) w K fun t45 w=>gtx t32 (mLoad 3 t45) w K fun t46 w=>gtx t32 (mEq .neq 3 (.tmp 46) (.const (iN 6)) t46 (iN 6)) w K fun t47 w=>dx (mPick t32 t47 (.bool false)) w K fun t48 w=>IfX t48 (K (.returned (.tuple #[(.slice none 0 0),(.slice none 0 0),(iN 10)])) w) (J1 [t34] w))) (fun vs1 w=>∀_:Sg,S_foliantref16_Of_0 t23 (vs1.getD 0 undef) w K)))
theorem S_foliantref16_Of_eq (t0:Value)(w:World)(K:Ending→World→Prop):wpX prog 111 [(12,[9])] [(14,[10,11]),(23,[14]),(27,[10]),(30,[15])] none (bodyOf Tryz.f53) (topQ prog [.tmp 2,.tmp 3,.tmp 4] K) (startX [t0]) [] w=S_foliantref16_Of t0 w K:=by kernel_rfl
theorem S_foliantref16_Of_ok {t0:Value}{w:World}{K:Ending→World→Prop}(h:S_foliantref16_Of t0 w K):Calls prog 53 #[t0] w K:=
 calls_of_wpX Tryz.func53 rfl rfl rfl rfl (Eq.mpr (S_foliantref16_Of_eq t0 w K) h)
def S_foliantref16_Undo(t0 t1 t2 w)(K:KT):=
 dx (mBox 27 t1) w K fun t4 w=>cx 19 #[t0] w K fun t12 w=>dx (mEq .eql 9 (.tmp 12) (.const (.string ⟨#[65,83,67,73,73,72,101,120,68,101,99,111,100,101]⟩)) t12 (.string ⟨#[65,83,67,73,73,72,101,120,68,101,99,111,100,101]⟩)) w K fun t14 w=>IfX t14 (cx 55 #[t2,(iN 1048576)] w K fun t16 w=>dx (mExt t16 0) w K fun t17 w=>dx (mExt t16 1) w K fun t18 w=>K (.returned (.tuple #[t17,t18])) w) (dx (mEq .eql 9 (.tmp 12) (.const (.string ⟨#[65,83,67,73,73,56,53,68,101,99,111,100,101]⟩)) t12 (.string ⟨#[65,83,67,73,73,56,53,68,101,99,111,100,101]⟩)) w K fun t20 w=>IfX t20 (cx 56 #[t2,(iN 1048576)] w K fun t22 w=>dx (mExt t22 0) w K fun t23 w=>dx (mExt t22 1) w K fun t24 w=>K (.returned (.tuple #[t23,t24])) w) (dx (mEq .eql 9 (.tmp 12) (.const (.string ⟨#[82,117,110,76,101,110,103,116,104,68,101,99,111,100,101]⟩)) t12 (.string ⟨#[82,117,110,76,101,110,103,116,104,68,101,99,111,100,101]⟩)) w K fun t26 w=>IfX t26 (cx 57 #[t2,(iN 1048576)] w K fun t28 w=>dx (mExt t28 0) w K fun t29 w=>dx (mExt t28 1) w K fun t30 w=>K (.returned (.tuple #[t29,t30])) w) (dx (mEq .eql 9 (.tmp 12) (.const (.string ⟨#[70,108,97,116,101,68,101,99,111,100,101]⟩)) t12 (.string ⟨#[70,108,97,116,101,68,101,99,111,100,101]⟩)) w K fun t32 w=>IfX t32 (dx (mLoad 27 t4) w K fun t33 w=>cx 58 #[t33] w K fun t34 w=>dx (mEq .neq 30 (.tmp 35) (.const (iN 0)) t34 (iN 0)) w K fun t36 w=>IfX t36 (K (.returned (.tuple #[(.string ⟨#[]⟩),t34])) w) (cx 59 #[t2,(iN 1048576)] w K fun t40 w=>dx (mExt t40 0) w K fun t41 w=>dx (mExt t40 1) w K fun t42 w=>dx (mEq .neq 30 (.tmp 43) (.const (iN 0)) t42 (iN 0)) w K fun t44 w=>IfX t44 (K (.returned (.tuple #[(.string ⟨#[]⟩),t42])) w) (dx (mLoad 27 t4) w K fun t46 w=>cx 60 #[t46,t41] w K fun t48 w=>dx (mExt t48 0) w K fun t49 w=>dx (mExt t48 1) w K fun t50 w=>K (.returned (.tuple #[t49,t50])) w))) (K (.returned (.tuple #[(.string ⟨#[]⟩),(iN 15)])) w))))
theorem S_foliantref16_Undo_ok{t0 t1 t2 w K}(h:S_foliantref16_Undo t0 t1 t2 w K):Calls prog 16 #[t0,t1,t2] w K:=cw Tryz.func16 rfl rfl (by kernel_rfl) h
def S_foliantref16_Decode_0(t4 t5 t7 t8 w)(N1:JT)(K:KT):=
 dx (mB .len #[22] 3 #[false] #[t4]) w K fun t24 w=>dx (mBin .lss 3 t8 t24) w K fun t25 w=>IfX t25 (QuietX w (fun C2=>QDo prog C2 (mIA 22 t4 t8) fun t31=>QDo prog C2 (mLoad 9 t31) fun t32=>QDo prog C2 (mIA 40 t5 t8) fun t35=>QDo prog C2 (mLoad 27 t35) fun t36=>QCall prog C2 16 #[t32,t36,t7] fun t38=>QDo prog C2 (mExt t38 0) fun t39=>QDo prog C2 (mExt t38 1) fun t40=>
 ∀w,C2 w →
 dx (mEq .neq 30 (.tmp 41) (.const (iN 0)) t40 (iN 0)) w K fun t42 w=>IfX t42 (K (.returned (.tuple #[(.string ⟨#[]⟩),t40])) w) (dx (mBin .add 3 t8 (iN 1)) w K fun t27 w=>N1 [t39,t27] w))) (K (.returned (.tuple #[t7,(iN 0)])) w)
def S_foliantref16_Decode(t0 w)(K:KT):=
 dx (mBox 25 t0) w K fun t1 w=>dx (mLoad 25 t1) w K fun t12 w=>cx 53 #[t12] w K fun t13 w=>dx (mExt t13 0) w K fun t14 w=>dx (mExt t13 1) w K fun t15 w=>dx (mExt t13 2) w K fun t16 w=>dx (mEq .neq 30 (.tmp 17) (.const (iN 0)) t16 (iN 0)) w K fun t18 w=>IfX t18 (K (.returned (.tuple #[(.string ⟨#[]⟩),t16])) w) (dx (mFA 25 t1 3) w K fun t20 w=>dx (mLoad 9 t20) w K fun t21 w=>LoopX [t21,(iN 0)] w (fun vs1 w N1=>∀_:Sg,S_foliantref16_Decode_0 t14 t15 (vs1.getD 0 undef) (vs1.getD 1 undef) w N1 K))
theorem S_foliantref16_Decode_eq (t0:Value)(w:World)(K:Ending→World→Prop):wpX prog 46 [] [(6,[7,8])] none (bodyOf Tryz.f14) (topQ prog [.tmp 2,.tmp 3] K) (startX [t0]) [] w=S_foliantref16_Decode t0 w K:=by kernel_rfl
theorem S_foliantref16_Decode_ok {t0:Value}{w:World}{K:Ending→World→Prop}(h:S_foliantref16_Decode t0 w K):Calls prog 14 #[t0] w K:=
 calls_of_wpX Tryz.func14 rfl rfl rfl rfl (Eq.mpr (S_foliantref16_Decode_eq t0 w K) h)
end
section
open Eng Go.RowKit
theorem rfull16_ret (n:List UInt8)(w:World):Ret prog 19 #[.string ⟨n.toArray⟩] w (fun v w'=>v=.string ⟨(Ff.full n).toArray⟩∧w=w'):=by
 refine ret_of fun K hK=>S_foliantref16_Full_ok ?_;unfold S_foliantref16_Full dx gfx efx;generalize hX:Ff.full n=X at hK;unfold Ff.full at hX;have fin:∀m:List UInt8,m=X→K (.returned (.string ⟨m.toArray⟩)) w:=fun m hm=>hK _ _ ⟨by rw[hm],rfl⟩;simp only[rs];by_cases c1:n=Ff.nHx
 ·rw[if_pos (.inr c1)] at hX;simp only[decide_eq_true c1,rs,i_t,g_un];exact fin _ hX
 simp only[decide_eq_false c1,rs];by_cases c2:n=[65,72,120]
 ·rw[if_pos (.inl c2)] at hX;simp only[decide_eq_true c2,rs,i_t];exact fin _ hX
 rw[if_neg (by simp[c1,c2])] at hX;simp only[decide_eq_false c2,rs,i_f];by_cases c3:n=Ff.n85
 ·rw[if_pos (.inr c3)] at hX;simp only[decide_eq_true c3,rs,i_t,g_un];exact fin _ hX
 simp only[decide_eq_false c3,rs];by_cases c4:n=[65,56,53]
 ·rw[if_pos (.inl c4)] at hX;simp only[decide_eq_true c4,rs,i_t];exact fin _ hX
 rw[if_neg (by simp[c3,c4])] at hX;simp only[decide_eq_false c4,rs,i_f];by_cases c5:n=Ff.nRL
 ·rw[if_pos (.inr c5)] at hX;simp only[decide_eq_true c5,rs,i_t,g_un];exact fin _ hX
 simp only[decide_eq_false c5,rs];by_cases c6:n=[82,76]
 ·rw[if_pos (.inl c6)] at hX;simp only[decide_eq_true c6,rs,i_t];exact fin _ hX
 rw[if_neg (by simp[c5,c6])] at hX;simp only[decide_eq_false c6,rs,i_f];by_cases c7:n=Ff.nFl
 ·rw[if_pos (.inr c7)] at hX;simp only[decide_eq_true c7,rs,i_t,g_un];exact fin _ hX
 simp only[decide_eq_false c7,rs];by_cases c8:n=[70,108]
 ·rw[if_pos (.inl c8)] at hX;simp only[decide_eq_true c8,rs,i_t];exact fin _ hX
 rw[if_neg (by simp[c7,c8])] at hX;simp only[decide_eq_false c8,rs,i_f];exact fin [] hX
theorem rknown16_ret (n:List UInt8)(w:World):Ret prog 18 #[.string ⟨n.toArray⟩] w (fun v w'=>v=.bool (decide (Ff.full n≠[]))∧w=w'):=by
 refine ret_of fun K hK=>S_foliantref16_Known_ok ?_;unfold S_foliantref16_Known dx cx;refine c_eq (rfull16_ret n w) ?_;rw[show (Value.string ⟨#[]⟩)=.string ⟨([]:List UInt8).toArray⟩ from rfl,n_str];exact hK _ _ ⟨rfl,rfl⟩
theorem rusual16_ret (w:World):Ret prog 72 #[] w (fun v w'=>v=pmV Ff.usual∧Below w.heap.size w w'):=by
 refine ret_of fun K hK=>S_foliantref16_Usual_ok ?_;unfold S_foliantref16_Usual iN dx;refine o_pma (Own.start w) fun b w1 ho=>?_;rw[m_pm3];refine pm_put 0 Ff.usual ho rfl fun w2 ho=>?_;exact ret_v1 (rv_cell (ho.agg 0 rfl aggPm)) (hK _ _ ⟨rfl,ho.done⟩)
theorem rnumber16_ret (o:Ob)(v:Value)(key:List UInt8)(M:Mem)(w:World)(hw:o.wt≤100000000000)(hM:M.has w)(hv:OV M.A M.w v o) :
  RetM prog 170 #[v,.string ⟨key.toArray⟩] M w (fun r _=>r=.tuple #[.int .i64 (Ff.num o key).1,.int .i64 (Ff.num o key).2]):=by
 obtain⟨vk,vc,cs,rfl,ha⟩:=hv.open;refine retM_of hM fun K hK=>S_foliantref16_number_ok ?_;generalize hX:Ff.num o key=X at hK;unfold Ff.num at hX;unfold S_foliantref16_number iN dx cx;refine o_obb o ha.keys.one ha.kids.one (OwnS.memS hM) fun b2 w1 ho=>?_;rw[ob_v ho 0 rfl];refine c_mem ho 1 rfl (rget_ret o _ key M w1 hw (ho.hasM 1 rfl) hv) ?_;rintro _ N w2 hle ⟨t,rfl,ht⟩ ho;obtain⟨tk,tc,rfl,ht⟩:=getD_ov ht;simp only[getV,ex];refine o_oba ho fun b5 w4 ho=>?_;refine ob_put 0 ht.oneK ht.oneC ho rfl fun w5 ho=>?_;have ho:OwnS M.A w w5 [obE b5 ((Vl.get o key).getD Vl.ob0) tk tc,obE b2 o vk vc,.mem N]:=ho;cases hg:Vl.get o key with
|none=>
  rw[hg] at hX ho;simp only[Option.isSome_none,rs,Bool.not_false,i_t];exact hK _ _ N _ 2 ho rfl hle (by rw[←hX])
|some x=>
  rw[hg] at hX ho;dsimp only at hX;rw[Option.getD_some] at ho;simp only[Option.isSome_some,rs,Bool.not_true,i_f];rw[fa_o0,ob_k ho 0 rfl];simp only[rs];by_cases h2:x.k=2
  ·rw[if_pos h2] at hX;simp only[decide_eq_false (show ¬x.k≠2 from fun h=>h h2),i_f];rw[fa_o1,ob_n ho 0 rfl];exact hK _ _ N _ 2 ho rfl hle (by rw[←hX])
  ·rw[if_neg h2] at hX;simp only[decide_eq_true (show x.k≠2 from h2),i_t];exact hK _ _ N _ 2 ho rfl hle (by rw[←hX])
theorem m_pm0 {w:World}{PK:PKT}{K:VWP}:DoX prog (mBuild 27 #[]) w PK K=K (pmV ⟨0,0,0⟩) w:=do_eq (by kernel_rfl)
theorem rparm16_ret (o:Ob)(v:Value)(M:Mem)(w:World)(hw:o.wt≤100000000000)(hM:M.has w)(hv:OV M.A M.w v o) :
  RetM prog 111 #[v] M w (fun r _=>r=.tuple #[pmV (Ff.parm o).1,.int .i64 (Ff.parm o).2]):=by
 obtain⟨vk,vc,cs,rfl,ha⟩:=hv.open;refine retM_of hM fun K hK=>S_foliantref16_parm_ok ?_;generalize hX:Ff.parm o=X at hK;unfold Ff.parm at hX;unfold S_foliantref16_parm iN dx gfx efx cx;refine o_obb o ha.keys.one ha.kids.one (OwnS.memS hM) fun b1 w1 ho=>?_;refine o_pma ho fun b2 w2 ho=>?_;rw[fa_o0,ob_k ho 1 rfl];simp only[rs];by_cases h0:o.k=0
 ·rw[if_pos h0] at hX;simp only[h0,decide_true,i_t];refine c_below ho (rusual16_ret w2) ?_;rintro _ w3 rfl ho;refine pm_put 0 Ff.usual ho rfl fun w4 ho=>?_;exact ret_v2 (rv_cell (ho.agg 0 rfl aggPm)) rv_val (hK _ _ M _ 2 ho rfl M.le_refl (by rw[←hX];rfl))
 rw[if_neg h0] at hX;simp only[h0,decide_false,i_f];rw[ob_v ho 1 rfl];refine c_mem ho 2 rfl (rnumber16_ret o _ Ff.kPred M w2 hw (ho.hasM 2 rfl) hv) ?_;rintro _ N1 w3 l1 rfl ho;simp only[ex];rw[ob_v ho 1 rfl];refine c_mem ho 2 rfl (rnumber16_ret o _ Ff.kCols N1 w3 hw (ho.hasM 2 rfl) (hv.le l1)) ?_;rintro _ N2 w4 l2 rfl ho;simp only[ex];rw[ob_v ho 1 rfl];refine c_mem ho 2 rfl (rnumber16_ret o _ Ff.kColu N2 w4 hw (ho.hasM 2 rfl) ((hv.le l1).le l2)) ?_;rintro _ N3 w5 l3 rfl ho;simp only[ex];have ho:OwnS M.A w w5 [pmE b2 ⟨0,0,0⟩,obE b1 o vk vc,.mem N3]:=ho;have hle:=(l1.trans l2).trans l3;rw[fa_o0,ob_k ho 1 rfl];simp only[rs];have bad:¬(o.k=7∧(Ff.num o Ff.kPred).2=0∧(Ff.num o Ff.kCols).2=0∧(Ff.num o Ff.kColu).2=0)→DoX prog (mBuild 27 #[]) w5 (pk K) (fun t44 w=>
   DoX prog (mStore 27 (.pointer (some ⟨b2,0,none⟩)) t44) w (pk K) fun _ w=>RetX prog [.cell (.pointer (some ⟨b2,0,none⟩)) 27,.val (.int .i64 10)] w K):=by
  intro h;rw[if_neg h] at hX;rw[m_pm0];refine pm_put 0 ⟨0,0,0⟩ ho rfl fun w6 ho=>?_;exact ret_v2 (rv_cell (ho.agg 0 rfl aggPm)) rv_val (hK _ _ N3 _ 2 ho rfl hle (by rw[←hX];rfl))
 by_cases h7:o.k=7
 case neg=>
  simp only[decide_eq_true (show o.k≠7 from h7),rs,i_t,g_un];exact bad fun k=>h7 k.1
 simp only[decide_eq_false (show ¬o.k≠7 from fun h=>h h7),rs];by_cases e1:(Ff.num o Ff.kPred).2=0
 case neg=>
  simp only[decide_eq_true (show (Ff.num o Ff.kPred).2≠0 from e1),rs,i_t,g_un];exact bad fun k=>e1 k.2.1
 simp only[decide_eq_false (show ¬(Ff.num o Ff.kPred).2≠0 from fun h=>h e1),rs];by_cases e2:(Ff.num o Ff.kCols).2=0
 case neg=>
  simp only[decide_eq_true (show (Ff.num o Ff.kCols).2≠0 from e2),rs,i_t,g_un];exact bad fun k=>e2 k.2.2.1
 simp only[decide_eq_false (show ¬(Ff.num o Ff.kCols).2≠0 from fun h=>h e2),rs];by_cases e3:(Ff.num o Ff.kColu).2=0
 case neg=>
  simp only[decide_eq_true (show (Ff.num o Ff.kColu).2≠0 from e3),rs,i_t,g_un];exact bad fun k=>e3 k.2.2.2
 simp only[decide_eq_false (show ¬(Ff.num o Ff.kColu).2≠0 from fun h=>h e3),rs,i_f];rw[if_pos ⟨h7,e1,e2,e3⟩] at hX;rw[m_pm3];refine pm_put 0 _ ho rfl fun w6 ho=>?_;exact ret_v2 (rv_cell (ho.agg 0 rfl aggPm)) rv_val (hK _ _ N3 _ 2 ho rfl hle (by rw[←hX];rfl))
theorem rwide16_ret (o:Ob)(v:Value)(M:Mem)(w:World)(hw:o.wt≤100000000000)(hM:M.has w)(hv:OV M.A M.w v o):RetM prog 112 #[v] M w (fun r _=>r=.bool (!Ff.eight o)):=by
 obtain⟨vk,vc,cs,rfl,ha⟩:=hv.open;refine retM_of hM fun K hK=>S_foliantref16_wide_ok ?_;generalize hX:Ff.eight o=X at hK;unfold Ff.eight at hX;unfold S_foliantref16_wide iN dx gtx gfx etx cx;refine o_obb o ha.keys.one ha.kids.one (OwnS.memS hM) fun b2 w1 ho=>?_;rw[ob_v ho 0 rfl];refine c_mem ho 1 rfl (rget_ret o _ Ff.kBits M w1 hw (ho.hasM 1 rfl) hv) ?_;rintro _ N w2 hle ⟨t,rfl,ht⟩ ho;obtain⟨tk,tc,rfl,ht⟩:=getD_ov ht;simp only[getV,ex];refine o_oba ho fun b5 w4 ho=>?_;refine ob_put 0 ht.oneK ht.oneC ho rfl fun w5 ho=>?_;have ho:OwnS M.A w w5 [obE b5 ((Vl.get o Ff.kBits).getD Vl.ob0) tk tc,obE b2 o vk vc,.mem N]:=ho;cases hg:Vl.get o Ff.kBits with
|none=>
  rw[hg] at hX ho;simp only[Option.isSome_none,rs,g_un];exact hK _ _ N _ 2 ho rfl hle (by rw[←hX];rfl)
|some x=>
  rw[hg] at hX ho;dsimp only at hX;rw[Option.getD_some] at ho;simp only[Option.isSome_some,rs];rw[fa_o0,ob_k ho 0 rfl];simp only[rs];by_cases h2:x.k=2
  ·simp only[decide_eq_false (show ¬x.k≠2 from fun h=>h h2),rs];rw[fa_o1,ob_n ho 0 rfl];simp only[rs];exact hK _ _ N _ 2 ho rfl hle (by rw[←hX,h2];simp)
  ·simp only[decide_eq_true (show x.k≠2 from h2),rs,g_un];exact hK _ _ N _ 2 ho rfl hle (by rw[←hX,decide_eq_false h2];rfl)
theorem kidsF {M:Mem}{vc:Value}{os:List Ob}{cs:List Value}(hs:SlA M.A M.w vc 6 os.length cs)(hall:OVs M.A M.w cs os){i:Nat}(hi:i < os.length) :
  ∃b off vk xc,(∀W,(mIA 23 vc (.int .i64 (i:Int))).run prog W=.ok (.value (.pointer (some ⟨b,off,none⟩))) W)∧OV M.A M.w (obV os[i] vk xc) os[i] ∧
   ∀W,M.has W→∀j u,(obC os[i] vk xc)[j]?=some u→W.cell? ⟨b,off+j,none⟩=some u:=by
 obtain⟨b,off,cap,rfl,_⟩:=sl_open hs.1 (by omega);obtain⟨a,hl,hov,hget⟩:=OVs.get _ _ i hi hall;obtain⟨vk,xc,ocs,he,hoa⟩:=hov.open;have ea:a=obC os[i] vk xc:=by
  unfold obV at he
  injection he with he
  exact congrArg Array.toList he
 subst ea;refine⟨b,off+i*6,vk,xc,fun W=>?_,hov,fun W hW j u hj=>?_⟩
 ·have:=run_ia (P:=prog) (T:=23) (b:=b) (off:=off) (cap:=cap) (n:=os.length) (k:=.i64) (i:=(i:Int)) (w:=W) Tryz.underlying23 szOb (by omega) (by omega)
  rwa [Int.toNat_natCast] at this
 ·obtain⟨b',off',cap',he',hc⟩:=sl_open (hs.now hW) (by omega);cases he';rw[Nat.add_assoc];exact hc _ _ (hget j u hj)
theorem strAt {M:Mem}{v:Value}{l:List (List UInt8)}(hs:SlA M.A M.w v 1 l.length (strsV l)){i:Nat}(hi:i < l.length) :
  ∃p,(∀W,(mIA 22 v (.int .i64 (i:Int))).run prog W=.ok (.value (.pointer (some p))) W)∧∀W,M.has W→(mLoad 9 (.pointer (some p))).run prog W=.ok (.value (.string ⟨l[i].toArray⟩)) W:=by
 obtain⟨b,off,cap,rfl,_⟩:=sl_open hs.1 (by omega);refine⟨⟨b,off+i,none⟩,fun W=>?_,fun W hW=>?_⟩
 ·have:=run_ia (P:=prog) (T:=22) (b:=b) (off:=off) (cap:=cap) (n:=l.length) (k:=.i64) (i:=(i:Int)) (w:=W) Tryz.underlying22 (show _=some 1 by kernel_rfl) (by omega) (by omega);rw[Int.toNat_natCast,Nat.mul_one] at this;exact this
 ·obtain⟨b',off',cap',he,hc⟩:=sl_open (hs.now hW) (by omega);cases he;exact run_load_cell nStr5 (hc i _ (strsV_get hi))
theorem pmC_len (x:Pm):(pmC x).length=3:=rfl
theorem pmAt {M:Mem}{v:Value}{l:List Pm}(hs:SlA M.A M.w v 3 l.length (l.flatMap pmC)){i:Nat}(hi:i < l.length) :
  ∃p,(∀W,(mIA 40 v (.int .i64 (i:Int))).run prog W=.ok (.value (.pointer (some p))) W)∧∀W,M.has W→(mLoad 27 (.pointer (some p))).run prog W=.ok (.value (pmV l[i])) W:=by
 obtain⟨b,off,cap,rfl,_⟩:=sl_open hs.1 (by omega);refine⟨⟨b,off+i*3,none⟩,fun W=>?_,fun W hW=>?_⟩
 ·have:=run_ia (P:=prog) (T:=40) (b:=b) (off:=off) (cap:=cap) (n:=l.length) (k:=.i64) (i:=(i:Int)) (w:=W) Tryz.underlying40 szPm (by omega) (by omega);rw[Int.toNat_natCast] at this;exact this
 ·obtain⟨b',off',cap',he,hc⟩:=sl_open (hs.now hW) (by omega);cases he;refine run_load_at (AtV.agg aggPm (cs:=pmC l[i]) rfl fun j u hj=>?_);rw[Nat.add_assoc];exact hc _ _ (Eng.flat_get pmC_len hi hj)
abbrev pmsE (v:Value)(l:List Pm):Ent:=.recs 27 pmC 3 v l
abbrev stsE (v:Value)(l:List (List UInt8)):Ent:=.urow 9 1 v l.length (strsV l)
theorem elPm:elB prog 27 3 24=true:=by kernel_rfl
section
variable {w:World}{PK PK2:PKT}{K:VWP}{S:Nat→Prop}{w0:World}{L:List Ent}
theorem o_pms1 (x:Pm){v:Value}{l:List Pm}{c:Array Bool}(ho:OwnS S w0 w (pmsE v l::L))(hl:l.length≤1000000000)(k:∀v' W,OwnS S w0 W (pmsE v' (l++[x])::L)→K v' W) :
  DoX prog (mBuildS 40 1 #[(0,pmV x)]) w PK fun t w=>DoX prog (mB .append #[40,40] 40 c #[v,t]) w PK2 K:=by
 refine o_new (fun b=>.slice (some ⟨b,0,none⟩) 1 1) (pmC x) 27 (fun _=>by kernel_rfl) ho fun b w1 ho=>?_;refine o_appendU 1 Tryz.underlying40 elPm (by decide) ho rfl (sl_one1 (ho.at_ 0 rfl) (by decide) rfl) pmC_one (by omega) (by omega) fun v' w2 ho=>k v' w2 ?_;have e:pmsE v' (l++[x])=.urow 27 3 v' (l.length+1) (l.flatMap pmC++pmC x):=by
  unfold pmsE Ent.recs;rw[List.length_append,List.flatMap_append,List.flatMap_singleton];rfl
 rw[e];exact ho.tail
theorem o_sts1 (x:List UInt8){v:Value}{l:List (List UInt8)}{c:Array Bool}(ho:OwnS S w0 w (stsE v l::L))(hl:l.length≤1000000000)(k:∀v' W,OwnS S w0 W (stsE v' (l++[x])::L)→K v' W) :
  DoX prog (mBuildS 22 1 #[(0,.string ⟨x.toArray⟩)]) w PK fun t w=>DoX prog (mB .append #[22,22] 22 c #[v,t]) w PK2 K:=by
 refine o_new (fun b=>.slice (some ⟨b,0,none⟩) 1 1) [.string ⟨x.toArray⟩] 9 (fun _=>by kernel_rfl) ho fun b w1 ho=>?_;refine o_appendU 1 Tryz.underlying22 (show elB prog 9 1 16=true by kernel_rfl) (by decide) ho rfl (sl_one1 (ho.at_ 0 rfl) (by decide) rfl) (fun u hu=>by rw[List.mem_singleton.1 hu];rfl) (by omega) (by omega) fun v' w2 ho=>k v' w2 ?_;have e:stsE v' (l++[x])=.urow 9 1 v' (l.length+1) (strsV l++[.string ⟨x.toArray⟩]):=by
  unfold stsE strsV;rw[List.length_append,List.map_append];rfl
 rw[e];exact ho.tail
theorem one_mem {o:Ob}{b:Nat}{vk vc:Value}{M:Mem}(ho:OwnS S w0 w (obE b o vk vc::L))(i:Nat)(hi:L[i]?=some (.mem M))(hov:OV M.A M.w (obV o vk vc) o) :
  ∃N:Mem,M.le N∧SlA N.A N.w (.slice (some ⟨b,0,none⟩) 1 1) 6 1 (obC o vk vc)∧OVs N.A N.w (obC o vk vc) [o]∧OwnS S w0 w (L.set i (.mem N)):=by
 have hb:=ho.at_ 0 rfl;obtain⟨N,h1,h2,h3,h4⟩:=ho.freeze i hi;refine⟨N,h1,⟨?_,fun p l c e _=>?_,fun a l c e=>?_⟩,?_,h4⟩
 ·rw[h2];exact sl_one1 hb (by decide) rfl
 ·injection e with e1 _ _
  injection e1 with e1
  rw[←e1];exact h3 b rfl
 ·injection e with _ e2 e3
  omega
 ·have:=OVs.snoc (a:=obC o vk vc) rfl (hov.le h1) [] [] OVs.nil;exact this
end
end
section
open Eng Go.RowKit
def slLen16:Value→Nat|.slice _ n _=>n|_=>0
namespace Ff
def filt (o:Ob):List Ob:=match Vl.get o kFilter with|none=>[]|some f=>if f.k=6 then f.kids else [f]
def dicts (o:Ob):List Ob×Int:=match Vl.get o kParms with|none=>([],0)|some d=>if d.k=6 then (d.kids,0) else if d.k=7 then ([d],0) else ([],10)
def parms (o:Ob)(many:Nat):List Pm×Int:=
 if (dicts o).2≠0 then ([],10)
 else if (dicts o).1.any (fun x=>decide ((parm x).2≠0))=true then ([],10)
 else if many < (dicts o).1.length then ([],1)
 else if (dicts o).1.any (fun x=>!eight x)=true then ([],1)
 else ((dicts o).1.map (fun x=>(parm x).1)++List.replicate (many - (dicts o).1.length) usual,0)
theorem dicts_wt {o x:Ob}(h:x∈(dicts o).1):x.wt≤o.wt:=by
 unfold dicts at h;cases hg:Vl.get o kParms with
|none=>rw[hg] at h;simp at h
|some f=>
  rw[hg] at h;have hf:=Vl.got_wt hg;dsimp only at h;split at h
  ·obtain⟨i,hi,rfl⟩:=List.getElem_of_mem (show x∈f.kids from h);have:=kid_wt hi;omega
  split at h
  ·rw[List.mem_singleton.1 h];exact hf
  ·simp at h
theorem kids_len {o:Ob}:o.kids.length≤o.wt:=by
 have:=Ob.len_wts o.kids;cases o;simp only[Ob.kids] at *;rw[Ob.wt];omega
theorem filt_len {o:Ob}(h:o.wt≤1000000000):(filt o).length≤1000000000:=by
 unfold filt;cases hg:Vl.get o kFilter with
|none=>exact Nat.zero_le _
|some f=>
  have hf:=Vl.got_wt hg;dsimp only;split
  ·have:=@kids_len f;omega
  ·exact (by decide:(1:Nat)≤1000000000)
theorem dicts_len {o:Ob}(h:o.wt≤1000000000):(dicts o).1.length≤1000000000:=by
 unfold dicts;cases hg:Vl.get o kParms with
|none=>exact Nat.zero_le _
|some f=>
  have hf:=Vl.got_wt hg;dsimp only;split
  ·have:=@kids_len f;show f.kids.length≤_;omega
  split
  ·exact (by decide:(1:Nat)≤1000000000)
  ·exact Nat.zero_le _
end Ff
section
variable {w:World}{PK:PKT}{K:VWP}{S:Nat→Prop}{w0:World}{L:List Ent}
structure LsAt (M:Mem) (v:Value) (os:List Ob) (cs:List Value):Prop where
 sl:SlA M.A M.w v 6 os.length cs
 all:OVs M.A M.w cs os
theorem LsAt.le {M N:Mem}{v:Value}{os:List Ob}{cs:List Value}(h:M.le N)(k:LsAt M v os cs):LsAt N v os cs:=⟨k.sl.le h,k.all.le h⟩
theorem ls_nil (M:Mem):LsAt M nilS [] []:=⟨SlA.nil _ _ _ _,OVs.nil⟩
theorem ls_kids {M:Mem}{o:Ob}{vk vc:Value}(h:OV M.A M.w (obV o vk vc) o):∃cs,LsAt M vc o.kids cs:=by
 obtain⟨cs,ha⟩:=h.slices;exact⟨cs,ha.kids,ha.all⟩
theorem ls_len {M:Mem}{v:Value}{os:List Ob}{cs:List Value}(h:LsAt M v os cs){W:World}{PK:PKT}{K:VWP}:DoX prog (mB .len #[23] 3 #[false] #[v]) W PK K=K (.int .i64 (os.length:Int)) W:=by
 obtain⟨a,cap,rfl,_⟩:=h.sl.form;exact sl_len_any Tryz.underlying23
theorem ls_get {M:Mem}{v:Value}{os:List Ob}{cs:List Value}(h:LsAt M v os cs){i:Nat}(hi:i < os.length)(hM:M.has w){PK2:PKT}(k:∀vk vc,OV M.A M.w (obV os[i] vk vc) os[i]→K (obV os[i] vk vc) w) :
  DoX prog (mIA 23 v (.int .i64 (i:Int))) w PK fun t w=>DoX prog (mLoad 25 t) w PK2 K:=by
 obtain⟨b,off,vk,xc,hia,hov,hcell⟩:=kidsF h.sl h.all hi;refine do_eq (hia w) |>.mpr ?_;refine do_eq (run_load_at (AtV.agg aggOb (cs:=obC os[i] vk xc) rfl (hcell w hM))) |>.mpr ?_;exact k vk xc hov
theorem c_flisted {o:Ob}{v:Value}{M:Mem}(ho:OwnS S w0 w (.mem M::L))(hw:o.wt≤1000000000)(hv:OV M.A M.w v o)
  (kt:(∀x∈Ff.filt o,x.k=5)→∀vn N W,M.le N→SlA N.A N.w vn 1 ((Ff.filt o).map Ob.s).length (strsV ((Ff.filt o).map Ob.s))→OwnS S w0 W (.mem N::L)→K vn W)
  (kf:¬(∀x∈Ff.filt o,x.k=5)→∀N W,M.le N→OwnS S w0 W (.mem N::L)→PK [upF 10] W):CallX prog 79 #[v] w PK K:=by
 obtain⟨vk,vc,ocs,rfl,ha⟩:=hv.open;have hfl:=Ff.filt_len hw;generalize hX:Ff.filt o=X at kt kf hfl;unfold Ff.filt at hX;refine⟨S_filter_listed_ok ?_⟩;unfold S_filter_listed iN dx cx;refine o_obb o ha.keys.one ha.kids.one ho fun b1 w1 ho=>?_;rw[ob_v ho 0 rfl];refine c_mem ho 1 rfl (vget_ret o _ Ff.kFilter M w1 (by omega) (ho.hasM 1 rfl) hv) ?_;rintro _ N w2 hle ⟨x,rfl,hx⟩ ho;obtain⟨xk,xc,rfl,hx⟩:=getD_ov hx;simp only[getV,ex];refine o_oba ho fun b3 w3 ho=>?_;refine ob_put 0 hx.oneK hx.oneC ho rfl fun w4 ho=>?_;rw[ob_v ho 0 rfl];refine o_obs1 _ hx.oneK hx.oneC ho fun nb w5 ho=>?_;have ho:OwnS S w0 w5 (obE nb ((Vl.get o Ff.kFilter).getD Vl.ob0) xk xc::obE b3 ((Vl.get o Ff.kFilter).getD Vl.ob0) xk xc::obE b1 o vk vc::.mem N::L):=ho;refine join fun J hJ=>?_;have main:∀(N':Mem) (vl:Value) (cs:List Value) (W:World),M.le N'→LsAt N' vl X cs→OwnS S w0 W (.mem N'::L)→J [vl] W:=by
  intro N' vl cs W hle' hls ho;refine hJ _ _ fun _=>?_;simp only[S_filter_listed_0,gd,iN,dx];rw[ls_len hls];have ho:=OwnS.nilU ho 9 1;refine loop (fun vs W=>∃(i:Nat) (ov:Value),vs=[ov,.int .i64 (i:Int)]∧i≤X.length∧(∀x∈X.take i,x.k=5)∧OwnS S w0 W (stsE ov ((X.take i).map Ob.s)::.mem N'::L)) (fun vs _=>X.length - n1 vs) ⟨0,nilS,rfl,by omega,by simp,ho⟩ ?_;clear ho;rintro vs w6 ⟨i,ov,rfl,hi,h5,ho⟩ _;simp only[S_filter_listed_1,gd,rs,iN,dx,cx];by_cases hlt:(i:Int) < (X.length:Int)
  case neg=>
   simp only[hlt,decide_false,i_f];have:i=X.length:=by omega
   subst this;rw[List.take_length] at h5 ho;obtain⟨N2,l2,hs2,ho⟩:=ho.freezeU 0 rfl;exact kt h5 ov N2 w6 (hle'.trans l2) hs2 ho
  simp only[hlt,decide_true,i_t];have hi':i < X.length:=by omega
  refine ls_get hls hi' (ho.hasM 1 rfl) fun yk yc hy=>?_;refine o_oba ho fun b8 w7 ho=>?_;refine ob_put 0 hy.oneK hy.oneC ho rfl fun w8 ho=>?_;rw[fa_o0,ob_k ho 0 rfl];simp only[rs];refine c_fmustQ (fun h=>?_) (fun h=>?_)
  rotate_left
  ·exact kf (fun k=>(of_decide_eq_false h) (k _ (List.getElem_mem hi'))) N' w8 hle' ho.tail.tail
  have h:=of_decide_eq_true h;rw[fa_o3,ob_s ho 0 rfl];refine o_sts1 _ ho.tail (by rw[List.length_map,List.length_take];omega) fun ov' W2 ho=>?_
  try simp only[rs]
  rw[wrap64_id (by omega) (by omega)];refine nextX ⟨i+1,ov',rfl,by omega,?_,?_⟩ (by simp[n1,RowKit.intOf];omega)
  ·rw[List.take_succ_eq_append_getElem hi'];intro x hx;rcases List.mem_append.1 hx with hx|hx
   ·exact h5 x hx
   ·rw[List.mem_singleton.1 hx];exact h
  ·rw[List.take_succ_eq_append_getElem hi',List.map_append];exact ho
 cases hg:Vl.get o Ff.kFilter with
|none=>
  rw[hg] at hX;dsimp only at hX;subst hX;simp only[Option.isSome_none,rs,Bool.not_false,i_t];exact kt (by simp) nilS N w5 hle (SlA.nil _ _ _ _) ho.tail.tail.tail
|some f=>
  rw[hg] at hX ho hx;dsimp only at hX;rw[Option.getD_some] at ho hx;simp only[Option.isSome_some,rs,Bool.not_true,i_f];rw[fa_o0,ob_k ho 1 rfl];simp only[rs];by_cases h6:f.k=6
  ·rw[if_pos h6] at hX;subst hX;simp only[h6,decide_true,i_t];rw[fa_o5,ob_kids ho 1 rfl];obtain⟨cs,hls⟩:=ls_kids hx;exact main N xc cs w5 hle hls ho.tail.tail.tail
  ·rw[if_neg h6] at hX;subst hX;simp only[h6,decide_false,i_f];obtain⟨N2,l2,hs2,ha2,ho⟩:=one_mem ho 2 rfl hx;exact main N2 _ _ w5 (hle.trans l2) ⟨hs2,ha2⟩ ho.tail.tail
theorem c_fparms {o:Ob}{v:Value}{M:Mem}{many:Nat}(ho:OwnS S w0 w (.mem M::L))(hw:o.wt≤1000000000)(hm:many≤1000000000)(hv:OV M.A M.w v o)
  (kt:(Ff.parms o many).2=0→∀vp N W,M.le N→SlA N.A N.w vp 3 (Ff.parms o many).1.length ((Ff.parms o many).1.flatMap pmC)→OwnS S w0 W (.mem N::L)→K vp W)
  (kf:(Ff.parms o many).2≠0→∀N W,M.le N→OwnS S w0 W (.mem N::L)→PK [upF (Ff.parms o many).2] W):CallX prog 81 #[v,.int .i64 (many:Int)] w PK K:=by
 obtain⟨vk,vc,ocs,rfl,ha⟩:=hv.open;have hdl:=Ff.dicts_len hw;have hdw:∀x∈(Ff.dicts o).1,x.wt≤1000000000:=fun x hx=>by have:=Ff.dicts_wt hx;omega
 generalize hX:Ff.parms o many=X at kt kf;unfold Ff.parms at hX;generalize hD:Ff.dicts o=D at hX hdl hdw;obtain⟨l,de⟩:=D;unfold Ff.dicts at hD;dsimp only at hX hdl hdw;refine⟨S_filter_parms_ok ?_⟩;unfold S_filter_parms iN dx cx;refine o_obb o ha.keys.one ha.kids.one ho fun b1 w1 ho=>?_;refine join fun J hJ=>?_;rw[ob_v ho 0 rfl];refine c_mem ho 1 rfl (vget_ret o _ Ff.kParms M w1 (by omega) (ho.hasM 1 rfl) hv) ?_;rintro _ N w2 hle ⟨x,rfl,hx⟩ ho;obtain⟨xk,xc,rfl,hx⟩:=getD_ov hx;simp only[getV,ex];refine o_oba ho fun b3 w3 ho=>?_;refine ob_put 0 hx.oneK hx.oneC ho rfl fun w4 ho=>?_;have ho:OwnS S w0 w4 (obE b3 ((Vl.get o Ff.kParms).getD Vl.ob0) xk xc::obE b1 o vk vc::.mem N::L):=ho;have fail:∀{e:Int} {N':Mem} {W:World},X=([],e)→e≠0→M.le N'→OwnS S w0 W (.mem N'::L)→PK [upF e] W:=by
  intro e N' W he h0 hle' ho;rw[he] at kf;exact kf h0 N' W hle' ho
 have main:de=0→∀(N':Mem) (vl:Value) (cs:List Value) (W:World),M.le N'→LsAt N' vl l cs→OwnS S w0 W (.mem N'::L)→J [vl] W:=by
  intro hde N' vl cs W hle' hls ho;rw[if_neg (by rw[hde];decide)] at hX;refine hJ _ _ fun _=>?_;simp only[S_filter_parms_0,gd,iN,dx];rw[ls_len hls];have ho:=OwnS.nilU ho 27 3;refine loop (fun vs W=>∃(i:Nat) (ov:Value) (N2:Mem),vs=[ov,.int .i64 (i:Int)]∧i≤l.length∧(∀x∈l.take i,(Ff.parm x).2=0)∧N'.le N2∧OwnS S w0 W (pmsE ov ((l.take i).map fun x=>(Ff.parm x).1)::.mem N2::L)) (fun vs _=>l.length - n1 vs) ⟨0,nilS,N',rfl,by omega,by simp,N'.le_refl,ho⟩ ?_;clear ho;rintro vs w6 ⟨i,ov,N2,rfl,hi,h0,l2,ho⟩ _;simp only[S_filter_parms_1,gd,rs,iN,dx,cx];by_cases hlt:(i:Int) < (l.length:Int)
  ·simp only[hlt,decide_true,i_t];have hi':i < l.length:=by omega
   refine ls_get (hls.le l2) hi' (ho.hasM 1 rfl) fun yk yc hy=>?_;refine o_oba ho fun b8 w7 ho=>?_;refine ob_put 0 hy.oneK hy.oneC ho rfl fun w8 ho=>?_;rw[ob_v ho 0 rfl];have ho:OwnS S w0 w8 ([obE b8 l[i] yk yc,pmsE ov ((l.take i).map fun x=>(Ff.parm x).1)]++([.mem N2]++L)):=ho;refine c_fone ho.front (by have:=hdw _ (List.getElem_mem hi');omega) hy (fun e0 N3 W2 l3 ho=>?_) (fun e0 N3 W2 l3 ho=>?_)
   rotate_left
   ·refine fail (e:=10) ?_ (by decide) ((hle'.trans l2).trans l3) (ho.sub (.cons_cons _ (.cons _ (.cons _ (List.Sublist.refl _)))));rw[if_pos (List.any_eq_true.2 ⟨_,List.getElem_mem hi',decide_eq_true (by rw[e0];decide)⟩)] at hX;exact hX.symm
   have ho:OwnS S w0 W2 ([.mem N3,obE b8 l[i] yk yc]++([pmsE ov ((l.take i).map fun x=>(Ff.parm x).1)]++L)):=ho;have ho:=ho.front;have ho:OwnS S w0 W2 (pmsE ov ((l.take i).map fun x=>(Ff.parm x).1)::.mem N3::obE b8 l[i] yk yc::L):=ho;refine o_pms1 _ ho (by rw[List.length_map,List.length_take];omega) fun ov' W3 ho=>?_
   try simp only[rs]
   rw[wrap64_id (by omega) (by omega)];refine nextX ⟨i+1,ov',N3,rfl,by omega,?_,l2.trans l3,?_⟩ (by simp[n1,RowKit.intOf];omega)
   ·rw[List.take_succ_eq_append_getElem hi'];intro x hx;rcases List.mem_append.1 hx with hx|hx
    ·exact h0 x hx
    ·rw[List.mem_singleton.1 hx];exact e0
   ·rw[List.take_succ_eq_append_getElem hi',List.map_append];exact ho.sub (.cons_cons _ (.cons_cons _ (.cons _ (List.Sublist.refl _))))
  simp only[hlt,decide_false,i_f];have:i=l.length:=by omega
  subst this;rw[List.take_length] at h0 ho;rw[if_neg (fun h=>by
   obtain⟨x,hx,h⟩:=List.any_eq_true.1 h;exact (of_decide_eq_true h) (h0 x hx))] at hX
  rw[ls_len hls];simp only[rs];refine c_fmustQ (fun h=>?_) (fun h=>?_)
  rotate_left
  ·have:=of_decide_eq_false h;rw[if_pos (by omega)] at hX;exact fail hX.symm (by decide) (hle'.trans l2) ho.tail
  have hml:=of_decide_eq_true h;rw[if_neg (by omega)] at hX;rw[ls_len hls];generalize hps:(l.map fun x=>(Ff.parm x).1)=ps at hX ho;have hpl:ps.length=l.length:=by rw[←hps,List.length_map]
  refine loop (fun vs W=>∃(i:Nat) (N3:Mem),vs=[.int .i64 (i:Int)]∧i≤l.length∧(∀x∈l.take i,Ff.eight x=true)∧N2.le N3∧OwnS S w0 W (pmsE ov ps::.mem N3::L)) (fun vs _=>l.length - n0 vs) ⟨0,N2,rfl,by omega,by simp,N2.le_refl,ho⟩ ?_;clear ho;rintro vs w7 ⟨i,N3,rfl,hi,h8,l3,ho⟩ _;simp only[S_filter_parms_2,gd,rs,iN,dx,cx];by_cases hlt:(i:Int) < (l.length:Int)
  ·simp only[hlt,decide_true,i_t];have hi':i < l.length:=by omega
   refine ls_get ((hls.le l2).le l3) hi' (ho.hasM 1 rfl) fun yk yc hy=>?_;refine o_oba ho fun b8 w8 ho=>?_;refine ob_put 0 hy.oneK hy.oneC ho rfl fun w9 ho=>?_;rw[ob_v ho 0 rfl];refine c_mem ho 2 rfl (feight_ret l[i] _ N3 w9 (by have:=hdw _ (List.getElem_mem hi');omega) (ho.hasM 2 rfl) hy) ?_;rintro _ N4 w10 l4 rfl ho;refine c_fmustQ (fun h=>?_) (fun h=>?_)
   rotate_left
   ·rw[if_pos (List.any_eq_true.2 ⟨_,List.getElem_mem hi',by rw[h];rfl⟩)] at hX;exact fail hX.symm (by decide) (((hle'.trans l2).trans l3).trans l4) ho.tail.tail
   try simp only[rs]
   rw[wrap64_id (by omega) (by omega)];refine nextX ⟨i+1,N4,rfl,by omega,?_,l3.trans l4,ho.tail⟩ (by simp[n0,RowKit.intOf];omega);rw[List.take_succ_eq_append_getElem hi'];intro x hx;rcases List.mem_append.1 hx with hx|hx
   ·exact h8 x hx
   ·rw[List.mem_singleton.1 hx];exact h
  simp only[hlt,decide_false,i_f];have:i=l.length:=by omega
  subst this;rw[List.take_length] at h8;rw[if_neg (fun h=>by
   obtain⟨x,hx,h⟩:=List.any_eq_true.1 h;rw[h8 x hx] at h;cases h)] at hX
  refine loop (fun vs W=>∃(j:Nat) (ov:Value),vs=[ov]∧l.length+j≤many∧OwnS S w0 W (pmsE ov (ps++List.replicate j Ff.usual)::.mem N3::L)) (fun vs _=>many - slLen16 (vs.getD 0 undef)) ⟨0,ov,rfl,by omega,by rw[List.replicate_zero,List.append_nil];exact ho⟩ ?_;clear ho;rintro vs w8 ⟨j,ov,rfl,hj,ho⟩ _;have hlj:(ps++List.replicate j Ff.usual).length=l.length+j:=by rw[List.length_append,List.length_replicate,hpl]
  have hsl:∃a cap,ov=.slice a (l.length+j) cap:=by
   obtain⟨_,a,cap,h,_⟩:=Sl.urow (ho.at_ 0 rfl);exact⟨a,cap,by rw[h,hlj]⟩
  obtain⟨a,cap,hov⟩:=hsl;simp only[S_filter_parms_3,gd,dx,cx];rw[show DoX prog (mB .len #[40] 3 #[false] #[ov]) w8=DoX prog (mB .len #[40] 3 #[false] #[.slice a (l.length+j) cap]) w8 by rw[hov],sl_len_any Tryz.underlying40];simp only[rs];by_cases hlt:((l.length+j:Nat):Int) < (many:Int)
  ·simp only[hlt,decide_true,i_t];refine c_below ho (fusual_ret w8) ?_;rintro _ w9 rfl ho;refine o_pms1 _ ho (by rw[hlj];omega) fun ov' W3 ho=>?_;have ho:OwnS S w0 W3 (pmsE ov' (ps++List.replicate (j+1) Ff.usual)::.mem N3::L):=by
    rw[List.replicate_succ',←List.append_assoc];exact ho
   have hlj2:(ps++List.replicate (j+1) Ff.usual).length=l.length+(j+1):=by rw[List.length_append,List.length_replicate,hpl]
   refine nextX ⟨j+1,ov',rfl,by omega,ho⟩ ?_;obtain⟨_,a',cap',h',_⟩:=Sl.urow (ho.at_ 0 rfl);rw[hov,h',hlj2];show many - (l.length+(j+1)) < many - (l.length+j);omega
  simp only[hlt,decide_false,i_f];have hjm:j=many - l.length:=by omega
  subst hjm;rw[←hX] at kt;obtain⟨N5,l5,hs5,ho⟩:=ho.freezeU 0 rfl;exact kt rfl ov N5 w8 (((hle'.trans l2).trans l3).trans l5) hs5 ho
 cases hg:Vl.get o Ff.kParms with
|none=>
  rw[hg] at hD;dsimp only at hD
  injection hD with hd1 hd2
  subst hd1;simp only[Option.isSome_none,rs,i_f];exact main hd2.symm N nilS [] w4 hle (ls_nil N) ho.tail.tail
|some f=>
  rw[hg] at hD ho hx;dsimp only at hD;rw[Option.getD_some] at ho hx;simp only[Option.isSome_some,i_t];rw[ob_v ho 0 rfl];refine o_obs1 _ hx.oneK hx.oneC ho fun nb w5 ho=>?_;rw[fa_o0,ob_k ho 1 rfl];simp only[rs];by_cases h6:f.k=6
  ·rw[if_pos h6] at hD
   injection hD with hd1 hd2
   subst hd1;simp only[h6,decide_true,i_t];rw[fa_o5,ob_kids ho 1 rfl];obtain⟨cs,hls⟩:=ls_kids hx;exact main hd2.symm N xc cs w5 hle hls ho.tail.tail.tail
  rw[if_neg h6] at hD;simp only[h6,decide_false,i_f];rw[fa_o0,ob_k ho 1 rfl];simp only[rs];refine c_fmustQ (fun h=>?_) (fun h=>?_)
  ·rw[if_pos (of_decide_eq_true h)] at hD
   injection hD with hd1 hd2
   subst hd1;obtain⟨N2,l2,hs2,ha2,ho⟩:=one_mem ho 2 rfl hx;exact main hd2.symm N2 _ _ w5 (hle.trans l2) ⟨hs2,ha2⟩ ho.tail.tail
  ·rw[if_neg (of_decide_eq_false h)] at hD
   injection hD with hd1 hd2
   rw[if_pos (by rw[←hd2];decide)] at hX;exact fail hX.symm (by decide) hle ho.tail.tail.tail
end
end
namespace Eng
theorem callsD_recoverA {P:Program}{f:FuncId}{fn:Func}{id:Nat}{o o2:Oper}{rest:Code}{args:List Value}{u:FrameMode}{w:World}{R:Ending→FrameMode→World→Prop}{n d d2:Nat}{aj al:List (Nat×List Nat)}{rs:List ResultVar}
  (hf:P.funcs[f]?=some fn) (hb:fn.body=some (.seq (.region id #[o,o2] false) rest)) (ho:o.op=.call { callee:=.builtin .recover,args:=#[],argTypes:=#[] }) (hg:o.guard=none) (hd:o.dst=some d) (hdn:Nat.blt d n=true)
  (ho2:o2.op=.assign (.tmp d)) (hg2:o2.guard=none) (hd2:o2.dst=some d2) (hdn2:Nat.blt d2 n=true)
  (hn:fn.ntmps=n) (hrs:fn.results.toList=rs) (hl:Nat.ble args.length n=true)
  (h:wpX P n aj al none rest (topD P rs (fun e w'=>R e (recM u) w')) (upd (upd (startX args) d (recV u)) d2 (recV u)) [] w):CallsD P f args.toArray u w R:=by
 refine callsD_of_wpS hf hb fun c₀ cs hu=>?_;rw[hn];refine wpS_seq (wpS_region ?_);have hex:∀ρ:Operand→Value,(execOp ρ o).run P w=.ok .recover w:=by
  intro ρ;unfold execOp;rw[ho];simp[resolve,invoke,builtin,bind,pure,Sem.bind,Sem.run]
 have hrep:=start_rep (args:=args) hl;have hput:Rep n (upd (startX args) d (recV u)) (({ tmps:=args.toArray++Array.replicate (n - args.toArray.size) undef,defers:=[] }:Act).put o.dst (recV u)).tmps:=by
  rw[hd];exact Rep.put (a:={ tmps:=args.toArray++Array.replicate (n - args.toArray.size) undef,defers:=[] }) hrep (d:=some d) hdn (recV u)
 have hdef:(({ tmps:=args.toArray++Array.replicate (n - args.toArray.size) undef,defers:=[] }:Act).put o.dst (recV u)).defers=[]:=by rw[hd];rfl
 obtain⟨A1,hA1⟩:∃A,A=({ tmps:=args.toArray++Array.replicate (n - args.toArray.size) undef,defers:=[] }:Act).put o.dst (recV u):=⟨_,rfl⟩;rw[←hA1] at hput hdef;have hex2:(execOp A1.eval o2).run P w=.ok (.value (recV u)) w:=by
  rw[Rep.eval hput];unfold execOp;rw[ho2];simp[rd,upd,pure,Sem.run]
 have key:wpOpsS P #[o,o2] (Exit.thenS (rest.wpS P (bodyPostS P fn c₀ cs R)) (bodyPostS P fn c₀ cs R)) [1] A1 ({ c₀ with mode:=recM u }::cs) w:=by
  unfold wpOpsS;simp only[List.getElem?_toArray,List.getElem?_cons_succ,List.getElem?_cons_zero];rw[if_pos (by simp[Region.wanted,hg2]),hex2];simp only[Oper.upon];have hput2:Rep n (upd (upd (startX args) d (recV u)) d2 (recV u)) (A1.put o2.dst (recV u)).tmps:=by
   rw[hd2];exact Rep.put hput (d:=some d2) hdn2 (recV u)
  have hdef2:(A1.put o2.dst (recV u)).defers=[]:=by rw[hd2];exact hdef
  refine wpS_of_wp (Code.wp_mono ?_ (wpIn_wide.1 (wpX_sound rest none _ _ _ w hput2 (by rw[hdef2];exact h))));rintro e a w' ⟨σ,hr,hk⟩;have hdd:∀K:Ending→World→Prop,RetD P (rvOf σ rs) w' K→∃v,(results fn a.tmps).run P w'=.ok v w'∧K (.returned v) w':=fun K hk=>by
   rw[results_eq hr,hrs];exact retX_iff hk
  generalize hds:a.defers=ds at hk;cases e<;>cases ds<;>first|(exact hk.elim;done)|skip
  ·obtain⟨v,h1,h2⟩:=hdd (fun e w'=>R e (recM u) w') hk;exact⟨hds,recM u,rfl,v,h1,h2⟩
  ·obtain⟨v,h1,h2⟩:=hdd (fun e w'=>R e (recM u) w') hk;exact⟨hds,recM u,rfl,v,h1,h2⟩
  ·exact⟨hds,recM u,rfl,hk⟩
 have e:=rec_eq c₀ cs;rw[hu] at e;show wpOpsS P #[o,o2] _ [0,1] _ (c₀::cs) w;unfold wpOpsS;simp only[List.getElem?_toArray,List.getElem?_cons_zero];rw[if_pos (by simp[Region.wanted,hg])];rw[hex];cases hrc:recoverD (c₀::cs) with
|none=>
  rw[hrc] at e;simp only[Prod.mk.injEq] at e;simp only;rw[e.1,e.2,←hA1];exact key
|some x=>
  obtain⟨v,cs'⟩:=x;rw[hrc] at e;simp only[Prod.mk.injEq] at e;simp only;rw[e.1,e.2,←hA1];exact key
end Eng
section
open Eng
def S_filter_Of_fn1_1(w)(K:KT):=
 K (.returned (.tuple #[])) w
def S_filter_Of_fn1_0(t0 t1 t2 t4 w)(K:KT):=
 DrawX w (fun w=>(dx (mFA 107 t4 0) w K fun t17 w=>(dx (mLoad 30 t17) w K fun t18 w=>dx (mStore 22 t0 (.slice none 0 0)) w K fun _ w=>dx (mStore 40 t1 (.slice none 0 0)) w K fun _ w=>dx (mStore 30 t2 t18) w K fun _ w=>S_filter_Of_fn1_1 w K)∧(dx (mStore 22 t0 (.slice none 0 0)) w K fun _ w=>(dx (mLoad 30 t17) w K fun t18_1 w=>dx (mStore 40 t1 (.slice none 0 0)) w K fun _ w=>dx (mStore 30 t2 t18_1) w K fun _ w=>S_filter_Of_fn1_1 w K)∧(dx (mStore 40 t1 (.slice none 0 0)) w K fun _ w=>dx (mLoad 30 t17) w K fun t18_2 w=>dx (mStore 30 t2 t18_2) w K fun _ w=>S_filter_Of_fn1_1 w K)))∧(dx (mStore 22 t0 (.slice none 0 0)) w K fun _ w=>(dx (mFA 107 t4 0) w K fun t17_1 w=>(dx (mLoad 30 t17_1) w K fun t18_3 w=>dx (mStore 40 t1 (.slice none 0 0)) w K fun _ w=>dx (mStore 30 t2 t18_3) w K fun _ w=>S_filter_Of_fn1_1 w K)∧(dx (mStore 40 t1 (.slice none 0 0)) w K fun _ w=>dx (mLoad 30 t17_1) w K fun t18_4 w=>dx (mStore 30 t2 t18_4) w K fun _ w=>S_filter_Of_fn1_1 w K))∧(dx (mStore 40 t1 (.slice none 0 0)) w K fun _ w=>dx (mFA 107 t4 0) w K fun t17_2 w=>dx (mLoad 30 t17_2) w K fun t18_5 w=>dx (mStore 30 t2 t18_5) w K fun _ w=>S_filter_Of_fn1_1 w K)))
def S_filter_Of_fn1(t0 t1 t2 r w)(K:KT):=
 dx (mEq .neq 20 (.tmp 7) (.const .nilIface) r .nilIface) w K fun t8 w=>IfX t8 (dx (mTA r 20 107 true) w K fun t11 w=>dx (mExt t11 0) w K fun t12 w=>dx (mExt t11 1) w K fun t13 w=>dx (mAlloc 107) w K fun t4 w=>dx (mStore 107 t4 t12) w K fun _ w=>JoinX (fun J1=>dx (mUn .not t13) w K fun t15 w=>IfX t15 (dx (mPanic r) w K fun _ w=>J1 [] w) (J1 [] w)) (fun vs1 w=>∀_:Sg,S_filter_Of_fn1_0 t0 t1 t2 t4 w K)) (K (.returned (.tuple #[])) w)
theorem S_filter_Of_fn1_eq (t0 t1 t2 r:Value)(w:World)(K:Ending→World→Prop):wpX prog 19 [(5,[])] [] none (sndOf (bodyOf Tryz.f77)) (topD prog [] K) (upd (upd (startX [t0,t1,t2]) 6 r) 3 r) [] w=S_filter_Of_fn1 t0 t1 t2 r w K:=by kernel_rfl
theorem S_filter_Of_fn1_dok {t0 t1 t2:Value}{u:FrameMode}{w:World}{R:Ending→FrameMode→World→Prop}(h:S_filter_Of_fn1 t0 t1 t2 (recV u) w (fun e w=>R e (recM u) w)):CallsD prog 77 #[t0,t1,t2] u w R:=
 callsD_recoverA Tryz.func77 rfl rfl rfl rfl rfl rfl rfl rfl rfl rfl rfl rfl (Eq.mpr (S_filter_Of_fn1_eq t0 t1 t2 (recV u) w _) h)
end
section
open Eng Go.RowKit
namespace Ff
def names (o:Ob):List (List UInt8)×Int:=
 if (filt o).any (fun x=>decide (x.k≠5))=true then ([],10)
 else if 8 < (filt o).length then ([],6)
 else if (filt o).any (fun x=>decide (full x.s=[]))=true then ([],15)
 else ((filt o).map (fun x=>full x.s),0)
def of (o:Ob):List (List UInt8)×List Pm×Int:=
 if o.k≠9 then ([],[],10)
 else if (names o).2≠0 then ([],[],(names o).2)
 else if (parms o (names o).1.length).2≠0 then ([],[],(parms o (names o).1.length).2)
 else if (parms o (names o).1.length).1.any (fun x=>!decide x.ok)=true then ([],[],1)
 else ((names o).1,(parms o (names o).1.length).1,0)
theorem parms_len {o:Ob}{n:Nat}(h:(parms o n).2=0):(parms o n).1.length=n:=by
 unfold parms at h ⊢;by_cases h1:(dicts o).2≠0
 ·rw[if_pos h1] at h;cases h
 rw[if_neg h1] at h ⊢;by_cases h2:(dicts o).1.any (fun x=>decide ((parm x).2≠0))=true
 ·rw[if_pos h2] at h;cases h
 rw[if_neg h2] at h ⊢;by_cases h3:n < (dicts o).1.length
 ·rw[if_pos h3] at h;cases h
 rw[if_neg h3] at h ⊢;by_cases h4:(dicts o).1.any (fun x=>!eight x)=true
 ·rw[if_pos h4] at h;cases h
 rw[if_neg h4];simp only[List.length_append,List.length_map,List.length_replicate];omega
theorem names_len {o:Ob}:(names o).1.length≤8:=by
 unfold names
 repeat' split
 all_goals first|exact Nat.zero_le _|(simp only[List.length_map];omega)
end Ff
theorem ofx_plain:plainB prog 77=true:=by kernel_rfl
theorem nSlPm:notAgg prog 40=true:=by kernel_rfl
theorem fo_bad:fOff prog 107 0=some 0:=by kernel_rfl
theorem szBad:(Tryz.prog.info? 107).map (·.size)=some 1:=by kernel_rfl
abbrev ofC (b1 b2 b3 b4:Nat)(o:Ob)(vk vc vn vp:Value)(e:Int):List Ent:=[.cells b4 [.int .i64 e] 30,.cells b3 [vp] 40,.cells b2 [vn] 22,obE b1 o vk vc]
theorem fof_ret16 (o:Ob)(v:Value)(M:Mem)(w:World)(hw:o.wt≤1000000000)(hM:M.has w)(hv:OV M.A M.w v o) :
  RetM prog 28 #[v] M w (fun r N=>∃vn vp,r=.tuple #[vn,vp,.int .i64 (Ff.of o).2.2]∧SlA N.A N.w vn 1 (Ff.of o).1.length (strsV (Ff.of o).1)∧SlA N.A N.w vp 3 (Ff.of o).2.1.length ((Ff.of o).2.1.flatMap pmC)):=by
 obtain⟨vk,vc,ocs,rfl,ha⟩:=hv.open;refine retM_of hM fun K hK=>S_filter_Of_ok ?_;generalize hX:Ff.of o=X at hK;unfold Ff.of at hX;unfold S_filter_Of iN dx;refine o_obb o ha.keys.one ha.kids.one (OwnS.memS hM) fun b1 w1 ho=>?_;refine o_new (fun b=>.pointer (some ⟨b,0,none⟩)) [nilS] 22 (fun _=>by kernel_rfl) ho fun b2 w2 ho=>?_;refine o_new (fun b=>.pointer (some ⟨b,0,none⟩)) [nilS] 40 (fun _=>by kernel_rfl) ho fun b3 w3 ho=>?_;refine o_new (fun b=>.pointer (some ⟨b,0,none⟩)) [.int .i64 0] 30 (fun _=>by kernel_rfl) ho fun b4 w4 ho=>?_;have ho:OwnS M.A w w4 (ofC b1 b2 b3 b4 o vk vc nilS nilS 0++([.mem M]++[])):=ho;have ho:=ho.front;have ho:OwnS M.A w w4 (.mem M::ofC b1 b2 b3 b4 o vk vc nilS nilS 0):=ho;rw[m_func];refine⟨_,rfl,?_⟩
 -- the end with an error
 have ofEnd:∀{W:World} {N:Mem} {e:Int} {R:List Ent},OwnS M.A w W (.mem N::(ofC b1 b2 b3 b4 o vk vc nilS nilS e++R))→M.le N→X=([],[],e) →
   RetX prog [.cell (.pointer (some ⟨b2,0,none⟩)) 22,.cell (.pointer (some ⟨b3,0,none⟩)) 40,.cell (.pointer (some ⟨b4,0,none⟩)) 30] W K:=by
  intro W N e R ho hle hx;refine ret_v3 (rv_cell (AtV.cell nSlS5 (ho.cell 3 rfl 0 rfl))) (rv_cell (AtV.cell nSlPm (ho.cell 2 rfl 0 rfl))) (rv_cell (AtV.cell nErr5 (ho.cell 1 rfl 0 rfl))) (hK _ _ N _ 0 ho rfl hle ⟨nilS,nilS,by rw[hx],by rw[hx];exact SlA.nil _ _ _ _,by rw[hx];exact SlA.nil _ _ _ _⟩)
 have fail:∀{W:World} {N:Mem} {e:Int} {vn vp:Value},OwnS M.A w W (.mem N::ofC b1 b2 b3 b4 o vk vc vn vp 0)→M.le N→X=([],[],e) →
   S_filter_Of_p0 { target:=.fn (.func 77) #[.pointer (some ⟨b2,0,none⟩),.pointer (some ⟨b3,0,none⟩),.pointer (some ⟨b4,0,none⟩)],args:=#[]++#[] } (.pointer (some ⟨b2,0,none⟩)) (.pointer (some ⟨b3,0,none⟩)) (.pointer (some ⟨b4,0,none⟩)) K [upF e] W:=by
  intro W N e vn vp ho hle hx;show pd prog _ K _ [upF e] W;unfold pd;refine leave_fn (by simp) ofx_plain (S_filter_Of_fn1_dok (t0:=.pointer (some ⟨b2,0,none⟩)) (t1:=.pointer (some ⟨b3,0,none⟩)) (t2:=.pointer (some ⟨b4,0,none⟩)) ?_);simp only[S_filter_Of_fn1,recV,recM,upF,Eng.n_some Tryz.underlying20,rs,t_hit nfUpF,ex,i_t,i_f,dx];refine o_new (fun b=>.pointer (some ⟨b,0,none⟩)) [.int .i64 0] 107 (fun _=>by kernel_rfl) ho fun b7 w5 ho=>?_;refine o_put 0 ho rfl (new:=[.int .i64 e]) szBad (fun u hu=>by rw[List.mem_singleton.1 hu];rfl) rfl fun w6 ho=>?_;have ho:OwnS M.A w w6 (.cells b7 [.int .i64 e] 107::.mem N::ofC b1 b2 b3 b4 o vk vc vn vp 0):=ho;refine join fun J hJ=>?_
  try simp only[Bool.not_true,i_f]
  refine hJ _ _ fun _=>?_;unfold S_filter_Of_fn1_0 dx;refine⟨?_⟩;have ho:=ho.drew
  repeat' first
  |apply And.intro
  |refine do_eq (run_fa fo_bad) |>.mpr ?_
  |refine do_eq (run_load_cell nErr5 (ho.cell 0 rfl 0 rfl)) |>.mpr ?_
  |refine o_store 4 ho rfl (by kernel_rfl) rfl (by simp) (fun _ ho=>?_)
  |refine o_store 3 ho rfl (by kernel_rfl) rfl (by simp) (fun _ ho=>?_)
  |refine o_store 2 ho rfl (by kernel_rfl) rfl (by simp) (fun _ ho=>?_)
  all_goals
   unfold S_filter_Of_fn1_1;exact ofEnd (R:=[]) ho.tail hle hx
 rw[fa_o0,ob_k ho 4 rfl];simp only[rs];refine c_fmustQ (fun h9=>?_) (fun h9=>?_)
 rotate_left
 ·rw[if_pos (of_decide_eq_false h9)] at hX;exact fail ho M.le_refl hX.symm
 have h9:=of_decide_eq_true h9;rw[if_neg (fun h=>h h9)] at hX;rw[ob_v ho 4 rfl];have hfl:=Ff.filt_len hw;have hnm:Ff.names o=Ff.names o:=rfl;generalize hN:Ff.names o=Nn at hX;unfold Ff.names at hN;refine c_flisted ho hw hv (fun h5 vl N w5 l1 hs1 ho=>?_) (fun h5 N w5 l1 ho=>?_)
 rotate_left
 ·have:(Ff.filt o).any (fun x=>decide (x.k≠5))=true:=by
   refine List.any_eq_true.2 (Classical.byContradiction fun hc=>h5 fun x hx=>Classical.byContradiction fun h=>hc ⟨x,hx,decide_eq_true h⟩)
  rw[if_pos this] at hN;rw[←hN,if_pos (by decide)] at hX;exact fail ho l1 hX.symm
 rw[if_neg (fun h=>by
  obtain⟨x,hx,h⟩:=List.any_eq_true.1 h;exact (of_decide_eq_true h) (h5 x hx))] at hN
 have hlen:∀{W:World} {PK:PKT} {K:VWP},DoX prog (mB .len #[22] 3 #[false] #[vl]) W PK K=K (.int .i64 (((Ff.filt o).map Ob.s).length:Int)) W:=fun {_ _ _}=>by
  obtain⟨a,cap,rfl,_⟩:=hs1.form;exact sl_len_any Tryz.underlying22
 rw[hlen];simp only[rs];refine c_fmustQ (fun h8=>?_) (fun h8=>?_)
 rotate_left
 ·have h8:=of_decide_eq_false h8;rw[List.length_map] at h8;rw[if_pos (by omega)] at hN;rw[←hN,if_pos (by decide)] at hX;exact fail ho l1 hX.symm
 have h8:=of_decide_eq_true h8;rw[if_neg (by rw[List.length_map] at h8;omega)] at hN;rw[hlen];generalize hln:(Ff.filt o).map Ob.s=ln at hs1 hlen h8;have hany:∀{p:List UInt8→Bool},(Ff.filt o).any (fun x=>p x.s)=ln.any p:=fun {p}=>by rw[←hln,List.any_map];rfl
 have hmap:(Ff.filt o).map (fun x=>Ff.full x.s)=ln.map Ff.full:=by rw[←hln,List.map_map];rfl
 rw[hany (p:=fun x=>decide (Ff.full x=[])),hmap] at hN;have ho:=OwnS.nilU ho 9 1;refine loop (fun vs W=>∃(i:Nat) (ov:Value),vs=[.int .i64 (i:Int)]∧i≤ln.length∧(∀x∈ln.take i,Ff.full x≠[])∧OwnS M.A w W (stsE ov ((ln.take i).map Ff.full)::.mem N::ofC b1 b2 b3 b4 o vk vc ov nilS 0)) (fun vs _=>ln.length - n0 vs) ⟨0,nilS,rfl,by omega,by simp,ho⟩ ?_;clear ho;rintro vs w6 ⟨i,ov,rfl,hi,hf,ho⟩ _;simp only[S_filter_Of_0,gd,rs,iN];by_cases hlt:(i:Int) < (ln.length:Int)
 ·simp only[hlt,decide_true,i_t];have hi':i < ln.length:=by omega
  obtain⟨p,hia,hld⟩:=strAt hs1 hi';rw[do_eq (hia w6),do_eq (hld w6 (ho.hasM 1 rfl))];refine c_eq (ffull_ret ln[i] w6) ?_;simp only[ex];refine c_fmustQ (fun h=>?_) (fun h=>?_)
  rotate_left
  ·have h:=Decidable.not_not.1 (of_decide_eq_false h);rw[if_pos (List.any_eq_true.2 ⟨_,List.getElem_mem hi',decide_eq_true h⟩)] at hN;rw[←hN,if_pos (by decide)] at hX;exact fail ho.tail l1 hX.symm
  have h:Ff.full ln[i]≠[]:=of_decide_eq_true h;rw[l_cell nSlS5 (ho.cell 4 rfl 0 rfl)];refine o_sts1 _ ho (by rw[List.length_map,List.length_take];omega) fun ov' W2 ho=>?_;have hov:ov'.oneCell'=true:=sl_one16 (Sl.urow (ho.at_ 0 rfl));refine o_store 4 ho rfl (by kernel_rfl) hov (by simp) fun w7 ho=>?_
  try simp only[rs]
  rw[wrap64_id (by omega) (by omega)];refine⟨rfl,?_⟩;refine nextX ⟨i+1,ov',rfl,by omega,?_,?_⟩ (by simp[n0,RowKit.intOf];omega)
  ·rw[List.take_succ_eq_append_getElem hi'];intro x hx;rcases List.mem_append.1 hx with hx|hx
   ·exact hf x hx
   ·rw[List.mem_singleton.1 hx];exact h
  ·rw[List.take_succ_eq_append_getElem hi',List.map_append];exact ho
 simp only[hlt,decide_false,i_f];have:i=ln.length:=by omega
 subst this;rw[List.take_length] at hf ho;rw[if_neg (fun h=>by
  obtain⟨x,hx,h⟩:=List.any_eq_true.1 h;exact hf x hx (of_decide_eq_true h))] at hN
 subst hN;dsimp only at hX;rw[if_neg (by decide)] at hX;generalize hns:ln.map Ff.full=ns at hX ho;have hnl:ns.length=ln.length:=by rw[←hns,List.length_map]
 have hne:∀x∈ns,x≠[]:=by
  rw[←hns];intro x hx;obtain⟨y,hy,rfl⟩:=List.mem_map.1 hx;exact hf y hy
 rw[ob_v ho 5 rfl];rw[hlen,←hnl];obtain⟨N2,l2,hs2,ho⟩:=ho.freezeU 0 rfl;have ho:OwnS M.A w w6 (.mem N2::ofC b1 b2 b3 b4 o vk vc ov nilS 0):=ho;have hpl:=@Ff.parms_len o ns.length;generalize hP:Ff.parms o ns.length=P at hX hpl;refine c_fparms (many:=ns.length) ho hw (by omega) ((hv.le l1).le l2) (fun h0 vp N3 w7 l3 hs3 ho=>?_) (fun h0 N3 w7 l3 ho=>?_)
 rotate_left
 ·rw[hP] at h0 ⊢;rw[if_pos h0] at hX;exact fail ho ((l1.trans l2).trans l3) hX.symm
 rw[hP] at h0 hs3;have hpl:=hpl h0;rw[if_neg (fun h=>h h0)] at hX;have hvp:vp.oneCell'=true:=hs3.one;refine o_store 2 ho rfl (by kernel_rfl) hvp (by simp) fun w8 ho=>?_;have ho:OwnS M.A w w8 (.mem N3::ofC b1 b2 b3 b4 o vk vc ov vp 0):=ho;rw[l_cell nSlS5 (ho.cell 3 rfl 0 rfl)];have hle:=(l1.trans l2).trans l3;have hs2:=hs2.le l3;have hlen2:∀{W:World} {PK:PKT} {K:VWP},DoX prog (mB .len #[22] 3 #[false] #[ov]) W PK K=K (.int .i64 (ns.length:Int)) W:=fun {_ _ _}=>by
  obtain⟨a,cap,rfl,_⟩:=hs2.form;exact sl_len_any Tryz.underlying22
 rw[hlen2];refine loop (fun vs W=>∃i:Nat,vs=[.int .i64 (i:Int)]∧i≤ns.length∧(∀x∈P.1.take i,x.ok)∧OwnS M.A w W (.mem N3::ofC b1 b2 b3 b4 o vk vc ov vp 0)) (fun vs _=>ns.length - n0 vs) ⟨0,rfl,by omega,by simp,ho⟩ ?_;clear ho;rintro vs w9 ⟨i,rfl,hi,hok,ho⟩ _;simp only[S_filter_Of_1,gd,rs,iN,etx];by_cases hlt:(i:Int) < (ns.length:Int)
 ·simp only[hlt,decide_true,i_t];have hi':i < ns.length:=by omega
  have hip:i < P.1.length:=by omega
  obtain⟨p,hia,hld⟩:=strAt hs2 hi';rw[do_eq (hia w9),do_eq (hld w9 (ho.hasM 0 rfl)),l_cell nSlPm (ho.cell 2 rfl 0 rfl)];obtain⟨p2,hia2,hld2⟩:=pmAt hs3 hip;rw[do_eq (hia2 w9),do_eq (hld2 w9 (ho.hasM 0 rfl))];refine c_below ho (pcheck_ret P.1[i] w9) ?_;rintro _ w10 rfl ho;simp only[n_err];by_cases hx:P.1[i].ok
  ·rw[if_pos hx];simp only[show decide ((0:Int)≠0)=false from rfl,rs,i_f];rw[wrap64_id (by omega) (by omega)];refine⟨rfl,?_⟩;refine nextX ⟨i+1,rfl,by omega,?_,ho⟩ (by simp[n0,RowKit.intOf];omega);rw[List.take_succ_eq_append_getElem hip];intro y hy;rcases List.mem_append.1 hy with hy|hy
   ·exact hok y hy
   ·rw[List.mem_singleton.1 hy];exact hx
  ·rw[if_neg hx];rw[if_pos (List.any_eq_true.2 ⟨_,List.getElem_mem hip,by simp[hx]⟩)] at hX;have hn:=hne _ (List.getElem_mem hi');simp only[show decide ((1:Int)≠0)=true from rfl,rs]
   try simp only[rs]
   rw[decide_eq_true hn]
   try simp only[rs]
   try rw[i_t]
   refine o_store 3 ho rfl (by kernel_rfl) rfl (by simp) fun w11 ho=>?_;refine o_store 2 ho rfl (by kernel_rfl) rfl (by simp) fun w12 ho=>?_;refine o_store 1 ho rfl (by kernel_rfl) rfl (by simp) fun w13 ho=>?_;refine leave_fn (by simp) ofx_plain (S_filter_Of_fn1_dok (t0:=.pointer (some ⟨b2,0,none⟩)) (t1:=.pointer (some ⟨b3,0,none⟩)) (t2:=.pointer (some ⟨b4,0,none⟩)) ?_);simp only[S_filter_Of_fn1,recV,recM,Eng.n_nil Tryz.underlying20,i_f,dx];exact ofEnd (R:=[]) ho hle hX.symm
 simp only[hlt,decide_false,i_f];have:i=ns.length:=by omega
 subst this;rw[List.take_of_length_le (by omega)] at hok;rw[if_neg (fun h=>by
  obtain⟨x,hx,h⟩:=List.any_eq_true.1 h;have:=hok x hx;simp[this] at h)] at hX
 have fin:∀{W:World},OwnS M.A w W (.mem N3::ofC b1 b2 b3 b4 o vk vc ov vp 0) →
   S_filter_Of_2 (.pointer (some ⟨b2,0,none⟩)) (.pointer (some ⟨b3,0,none⟩)) (.pointer (some ⟨b4,0,none⟩)) { target:=.fn (.func 77) #[.pointer (some ⟨b2,0,none⟩),.pointer (some ⟨b3,0,none⟩),.pointer (some ⟨b4,0,none⟩)],args:=#[]++#[] } W K:=by
  intro W ho;unfold S_filter_Of_2;refine leave_fn (by simp) ofx_plain (S_filter_Of_fn1_dok (t0:=.pointer (some ⟨b2,0,none⟩)) (t1:=.pointer (some ⟨b3,0,none⟩)) (t2:=.pointer (some ⟨b4,0,none⟩)) ?_);simp only[S_filter_Of_fn1,recV,recM,Eng.n_nil Tryz.underlying20,i_f,dx];refine ret_v3 (rv_cell (AtV.cell nSlS5 (ho.cell 3 rfl 0 rfl))) (rv_cell (AtV.cell nSlPm (ho.cell 2 rfl 0 rfl))) (rv_cell (AtV.cell nErr5 (ho.cell 1 rfl 0 rfl))) ?_;exact hK _ _ N3 _ 0 ho rfl hle ⟨ov,vp,by rw[←hX],by rw[←hX];exact hs2,by rw[←hX];exact hs3⟩
 have hov:ov.oneCell'=true:=hs2.one;refine⟨?_⟩;have ho:=ho.drew
 repeat' first
 |exact fin ho
 |apply And.intro
 |refine do_eq (run_load_cell nSlS5 (ho.cell 3 rfl 0 rfl)) |>.mpr ?_
 |refine do_eq (run_load_cell nSlPm (ho.cell 2 rfl 0 rfl)) |>.mpr ?_
 |refine o_store 3 ho rfl (by kernel_rfl) hov (by simp) (fun _ ho=>?_)
 |refine o_store 2 ho rfl (by kernel_rfl) hvp (by simp) (fun _ ho=>?_)
 |refine o_store 1 ho rfl (by kernel_rfl) rfl (by simp) (fun _ ho=>?_)
end
end Go.Proofs.YtlipjfcbjemicaaGreatDoor
