/- Texts that go together: SPages SNumB PgA PgB SRef35 SMake5B PgC PgD PgE PgF PgG Plain35E PgH PgI. -/
import Derived.Test.YtoobidofdpdkbaaGreatDoorRows
import Derived.Test.YtoobidofdpdkbaaGreatDoorMcacjffhi
import Derived.Test.YtoobidofdpdkbaaGreatDoorMcfcbgkko
import Derived.Test.YtoobidofdpdkbaaGreatDoorMminokdai
set_option linter.defProp false
set_option linter.unusedSimpArgs false
set_option linter.unusedVariables false
set_option maxRecDepth 20000
open Go.Proofs.Tryz (prog)
namespace Go.Proofs.YtoobidofdpdkbaaGreatDoor
section
open Eng
def S_pages_tree_wrong_0 (t0:Value)(w:World)(K:Ending→World→Prop):Prop:=
 DoX prog (mNil t0) w (pk K) fun t20 w=>
 DoX prog (mFA 116 t20 3) w (pk K) fun t21 w=>
 DoX prog (mLoad 32 t21) w (pk K) fun t22 w=>
 DoX prog (mEq .neq 32 (.tmp 22) (.const (.int .i64 0)) t22 (.int .i64 0)) w (pk K) fun t23 w=>
 K (.returned t23) w
def S_pages_tree_wrong (t0 t1 t2:Value)(w:World)(K:Ending→World→Prop):Prop:=
 JoinX (fun J1=>
 GDo t1 true (fun E=>E t0 w) w fun t9 w=>
 GDo t1 true (fun E=>DoX prog (mNil t9) w (pk K) E) w fun t10 w=>
 GDo t1 true (fun E=>DoX prog (mFA 116 t10 3) w (pk K) E) w fun t11 w=>
 GDo t1 true (fun E=>DoX prog (mLoad 32 t11) w (pk K) E) w fun t12 w=>
 GDo t1 true (fun E=>DoX prog (mEq .eql 32 (.tmp 12) (.const (.int .i64 0)) t12 (.int .i64 0)) w (pk K) E) w fun t13 w=>
 DoX prog (mPick t1 t13 (.bool false)) w (pk K) fun t14 w=>
 IfX t14 (DoX prog (mNil t0) w (pk K) fun t17 w=>
 DoX prog (mFA 116 t17 3) w (pk K) fun t18 w=>
 DoX prog (mStore 32 t18 t2) w (pk K) fun _ w=>
 J1 [] w) (J1 [] w)) (fun vs1 w=>∀_:Sg,S_pages_tree_wrong_0 t0 w K)
theorem S_pages_tree_wrong_eq (t0 t1 t2:Value)(w:World)(K:Ending→World→Prop):wpX prog 24 [(3,[])] [] none (bodyOf Tryz.f121) (topQ prog [.tmp 6] K) (startX [t0,t1,t2]) [] w=S_pages_tree_wrong t0 t1 t2 w K:=by kernel_rfl
theorem S_pages_tree_wrong_ok {t0 t1 t2:Value}{w:World}{K:Ending→World→Prop}(h:S_pages_tree_wrong t0 t1 t2 w K):Calls prog 121 #[t0,t1,t2] w K:=
 calls_of_wpX Tryz.func121 rfl rfl rfl rfl (Eq.mpr (S_pages_tree_wrong_eq t0 t1 t2 w K) h)
def S_pages_tree_kind_0 (t5:Value)(w:World)(K:Ending→World→Prop):Prop:=
 DoX prog (mFA 26 t5 0) w (pk K) fun t16 w=>
 DoX prog (mLoad 3 t16) w (pk K) fun t17 w=>
 DoX prog (mEq .neq 3 (.tmp 17) (.const (.int .i64 5)) t17 (.int .i64 5)) w (pk K) fun t18 w=>
 GDo t18 false (fun E=>DoX prog (mFA 26 t5 3) w (pk K) E) w fun t20 w=>
 GDo t18 false (fun E=>DoX prog (mLoad 9 t20) w (pk K) E) w fun t21 w=>
 GDo t18 false (fun E=>DoX prog (mEq .neq 9 (.tmp 21) (.const (.string ⟨#[80,97,103,101]⟩)) t21 (.string ⟨#[80,97,103,101]⟩)) w (pk K) E) w fun t22 w=>
 GDo t18 false (fun E=>E t22 w) w fun t23 w=>
 GDo t23 true (fun E=>DoX prog (mFA 26 t5 3) w (pk K) E) w fun t24 w=>
 GDo t23 true (fun E=>DoX prog (mLoad 9 t24) w (pk K) E) w fun t25 w=>
 GDo t23 true (fun E=>DoX prog (mEq .neq 9 (.tmp 25) (.const (.string ⟨#[80,97,103,101,115]⟩)) t25 (.string ⟨#[80,97,103,101,115]⟩)) w (pk K) E) w fun t26 w=>
 GDo t18 false (fun E=>DoX prog (mPick t23 t26 (.bool false)) w (pk K) E) w fun t27 w=>
 DoX prog (mPick t18 (.bool true) t27) w (pk K) fun t28 w=>
 IfX t28 (K (.returned (.string ⟨#[]⟩)) w) (DoX prog (mFA 26 t5 3) w (pk K) fun t29 w=>
 DoX prog (mLoad 9 t29) w (pk K) fun t30 w=>
 K (.returned t30) w)
def S_pages_tree_kind (t0 t1:Value)(w:World)(K:Ending→World→Prop):Prop:=
 DoX prog (mBox 26 t1) w (pk K) fun t3 w=>
 DoX prog (mFA 26 t3 0) w (pk K) fun t6 w=>
 DoX prog (mLoad 3 t6) w (pk K) fun t7 w=>
 DoX prog (mEq .neq 3 (.tmp 7) (.const (.int .i64 7)) t7 (.int .i64 7)) w (pk K) fun t8 w=>
 IfX t8 (K (.returned (.string ⟨#[]⟩)) w) (HeldX w (fun S1 w=>
 HDo prog (fun _=>True) (mNil t0) fun t10=>
 HDo prog (fun _=>True) (mFA 116 t10 0) fun t11=>
 HDo prog S1 (mLoad 28 t11) fun t12=>
 HDo prog S1 (mLoad 26 t3) fun t13=>
 (DoX prog (mBuildS 23 1 #[(0,(.string ⟨#[84,121,112,101]⟩))]) w (pm1 (pm1 (pm1 (pm1 (pm1 (pk K)))))) fun t14 w=>
 S1 w∧((CallX prog 58 #[t12,t13,t14] w (pm1 (pm1 (pm1 (pm1 (pm1 (pk K)))))) fun t15 w=>
 (DoX prog (mAlloc 26) w (pm1 (pm1 (pm1 (pm1 (pm1 (pk K)))))) fun t5 w=>
 S1 w∧(DoX prog (mStore 26 t5 t15) w (pm1 (pm1 (pm1 (pm1 (pm1 (pk K)))))) fun _ w=>
 (S_pages_tree_kind_0 t5 w K))))∧(DoX prog (mAlloc 26) w (pm1 (pm1 (pm1 (pm1 (pm1 (pk K)))))) fun t5_1 w=>
 S1 w∧(CallX prog 58 #[t12,t13,t14] w (pm1 (pm1 (pm1 (pm1 (pm1 (pk K)))))) fun t15_1 w=>
 (DoX prog (mStore 26 t5_1 t15_1) w (pm1 (pm1 (pm1 (pm1 (pm1 (pk K)))))) fun _ w=>
 (S_pages_tree_kind_0 t5_1 w K))))))∧(DoX prog (mAlloc 26) w (pm1 (pm1 (pm1 (pm1 (pm1 (pk K)))))) fun t5_2 w=>
 S1 w∧(DoX prog (mBuildS 23 1 #[(0,(.string ⟨#[84,121,112,101]⟩))]) w (pm1 (pm1 (pm1 (pm1 (pm1 (pk K)))))) fun t14_1 w=>
 S1 w∧(CallX prog 58 #[t12,t13,t14_1] w (pm1 (pm1 (pm1 (pm1 (pm1 (pk K)))))) fun t15_2 w=>
 (DoX prog (mStore 26 t5_2 t15_2) w (pm1 (pm1 (pm1 (pm1 (pm1 (pk K)))))) fun _ w=>
 (S_pages_tree_kind_0 t5_2 w K)))))))
theorem S_pages_tree_kind_eq (t0 t1:Value)(w:World)(K:Ending→World→Prop):wpX prog 31 [] [] none (bodyOf Tryz.f120) (topQ prog [.tmp 4] K) (startX [t0,t1]) [] w=S_pages_tree_kind t0 t1 w K:=by kernel_rfl
theorem S_pages_tree_kind_ok {t0 t1:Value}{w:World}{K:Ending→World→Prop}(h:S_pages_tree_kind t0 t1 w K):Calls prog 120 #[t0,t1] w K:=
 calls_of_wpX Tryz.func120 rfl rfl rfl rfl (Eq.mpr (S_pages_tree_kind_eq t0 t1 w K) h)
def S_pages_tree_node_2 (t0 t3 t4 t16 t116 t117 t118:Value)(w:World)(N3:List Value→World→Prop)(K:Ending→World→Prop):Prop:=
 DoX prog (mBin .lss 3 t118 t117) w (pk K) fun t119 w=>
 IfX t119 (DoX prog (mIA 24 t116 t118) w (pk K) fun t120 w=>
 DoX prog (mLoad 26 t120) w (pk K) fun t121 w=>
 DoX prog (mAlloc 26) w (pk K) fun t18 w=>
 DoX prog (mStore 26 t18 t121) w (pk K) fun _ w=>
 DoX prog (mLoad 26 t18) w (pk K) fun t123 w=>
 DoX prog (mBin .add 3 t3 (.int .i64 1)) w (pk K) fun t126 w=>
 CallX prog 92 #[t0,t123,t16,t126,t4] w (pk K) fun t128 w=>
 DoX prog (mUn .not t128) w (pk K) fun t129 w=>
 IfX t129 (K (.returned (.bool false)) w) (DoX prog (mBin .add 3 t118 (.int .i64 1)) w (pk K) fun t130 w=>
 N3 [t130] w)) (K (.returned (.bool true)) w)
def S_pages_tree_node_1 (t0 t2 t3 t4 t6 t11 t12 t13:Value)(w:World)(K:Ending→World→Prop):Prop:=
 DoX prog (mFA 26 t6 1) w (pk K) fun t35 w=>
 DoX prog (mLoad 2 t35) w (pk K) fun t36 w=>
 DoX prog (mEq .eql 9 (.tmp 37) (.const (.string ⟨#[80,97,103,101]⟩)) t12 (.string ⟨#[80,97,103,101]⟩)) w (pk K) fun t38 w=>
 DoX prog (mFA 26 t6 0) w (pk K) fun t40 w=>
 DoX prog (mLoad 3 t40) w (pk K) fun t41 w=>
 DoX prog (mEq .neq 3 (.tmp 41) (.const (.int .i64 8)) t41 (.int .i64 8)) w (pk K) fun t42 w=>
 GDo t42 false (fun E=>E t12 w) w fun t44 w=>
 GDo t42 false (fun E=>DoX prog (mEq .eql 9 (.tmp 44) (.const (.string ⟨#[]⟩)) t44 (.string ⟨#[]⟩)) w (pk K) E) w fun t45 w=>
 DoX prog (mPick t42 (.bool true) t45) w (pk K) fun t46 w=>
 GDo t46 false (fun E=>E t38 w) w fun t48 w=>
 GDo t46 false (fun E=>DoX prog (mUn .not t48) w (pk K) E) w fun t49 w=>
 GDo t46 false (fun E=>E t49 w) w fun t50 w=>
 GDo t50 true (fun E=>DoX prog (mFA 26 t13 0) w (pk K) E) w fun t51 w=>
 GDo t50 true (fun E=>DoX prog (mLoad 3 t51) w (pk K) E) w fun t52 w=>
 GDo t50 true (fun E=>DoX prog (mEq .neq 3 (.tmp 52) (.const (.int .i64 6)) t52 (.int .i64 6)) w (pk K) E) w fun t53 w=>
 GDo t46 false (fun E=>DoX prog (mPick t50 t53 (.bool false)) w (pk K) E) w fun t54 w=>
 DoX prog (mPick t46 (.bool true) t54) w (pk K) fun t55 w=>
 CallX prog 121 #[t0,t55,(.int .i64 24)] w (pk K) fun t56 w=>
 GDo t56 false (fun E=>E t0 w) w fun t58 w=>
 GDo t56 false (fun E=>E t0 w) w fun t59 w=>
 GDo t56 false (fun E=>DoX prog (mNil t59) w (pk K) E) w fun t60 w=>
 GDo t56 false (fun E=>DoX prog (mFA 116 t60 1) w (pk K) E) w fun t61 w=>
 GDo t56 false (fun E=>DoX prog (mLoad 114 t61) w (pk K) E) w fun t62 w=>
 GDo t56 false (fun E=>E t36 w) w fun t63 w=>
 GDo t56 false (fun E=>DoX prog (mLook 114 t62 t63 false) w (pk K) E) w fun t64 w=>
 GDo t56 false (fun E=>CallX prog 121 #[t58,t64,(.int .i64 11)] w (pk K) E) w fun t65 w=>
 DoX prog (mPick t56 (.bool true) t65) w (pk K) fun t66 w=>
 GDo t66 false (fun E=>E t0 w) w fun t68 w=>
 GDo t66 false (fun E=>E t3 w) w fun t69 w=>
 GDo t66 false (fun E=>DoX prog (mBin .gtr 3 t69 (.int .i64 24)) w (pk K) E) w fun t70 w=>
 GDo t66 false (fun E=>CallX prog 121 #[t68,t70,(.int .i64 7)] w (pk K) E) w fun t71 w=>
 DoX prog (mPick t66 (.bool true) t71) w (pk K) fun t72 w=>
 GDo t72 false (fun E=>E t0 w) w fun t74 w=>
 GDo t72 false (fun E=>E t0 w) w fun t75 w=>
 GDo t72 false (fun E=>DoX prog (mNil t75) w (pk K) E) w fun t76 w=>
 GDo t72 false (fun E=>DoX prog (mFA 116 t76 1) w (pk K) E) w fun t77 w=>
 GDo t72 false (fun E=>DoX prog (mLoad 114 t77) w (pk K) E) w fun t78 w=>
 GDo t72 false (fun E=>DoX prog (mB .len #[114] 3 #[false] #[t78]) w (pk K) E) w fun t79 w=>
 GDo t72 false (fun E=>DoX prog (mEq .eql 3 (.tmp 79) (.const (.int .i64 4096)) t79 (.int .i64 4096)) w (pk K) E) w fun t80 w=>
 GDo t72 false (fun E=>E t80 w) w fun t81 w=>
 GDo t81 false (fun E=>E t38 w) w fun t82 w=>
 GDo t81 false (fun E=>E t82 w) w fun t83 w=>
 GDo t83 true (fun E=>E t0 w) w fun t84 w=>
 GDo t83 true (fun E=>DoX prog (mNil t84) w (pk K) E) w fun t85 w=>
 GDo t83 true (fun E=>DoX prog (mFA 116 t85 2) w (pk K) E) w fun t86 w=>
 GDo t83 true (fun E=>DoX prog (mLoad 3 t86) w (pk K) E) w fun t87 w=>
 GDo t83 true (fun E=>DoX prog (mEq .eql 3 (.tmp 87) (.const (.int .i64 2048)) t87 (.int .i64 2048)) w (pk K) E) w fun t88 w=>
 GDo t81 false (fun E=>DoX prog (mPick t83 t88 (.bool false)) w (pk K) E) w fun t89 w=>
 GDo t72 false (fun E=>DoX prog (mPick t81 (.bool true) t89) w (pk K) E) w fun t90 w=>
 GDo t72 false (fun E=>CallX prog 121 #[t74,t90,(.int .i64 6)] w (pk K) E) w fun t91 w=>
 DoX prog (mPick t72 (.bool true) t91) w (pk K) fun t92 w=>
 IfX t92 (K (.returned (.bool false)) w) (DoX prog (mNil t0) w (pk K) fun t94 w=>
 DoX prog (mFA 116 t94 1) w (pk K) fun t95 w=>
 DoX prog (mLoad 114 t95) w (pk K) fun t96 w=>
 DoX prog (mMapU 114 t96 t36 (.bool true)) w (pk K) fun _ w=>
 DoX prog (mLoad 26 t11) w (pk K) fun t98 w=>
 DoX prog (mBuildS 24 1 #[(0,t98)]) w (pk K) fun t99 w=>
 DoX prog (mB .append #[24,24] 24 #[false,false] #[t99,t2]) w (pk K) fun t101 w=>
 IfX t38 (DoX prog (mNil t0) w (pk K) fun t104 w=>
 DoX prog (mFA 116 t104 2) w (pk K) fun t105 w=>
 DoX prog (mLoad 3 t105) w (pk K) fun t106 w=>
 DoX prog (mBin .add 3 t106 (.int .i64 1)) w (pk K) fun t107 w=>
 DoX prog (mNil t0) w (pk K) fun t108 w=>
 DoX prog (mFA 116 t108 2) w (pk K) fun t109 w=>
 DoX prog (mStore 3 t109 t107) w (pk K) fun _ w=>
 DoX prog (mBuild 76 #[(0,t36),(1,t101)]) w (pk K) fun t113 w=>
 DoX prog (mCallV t4 #[t113]) w (pk K) fun t114 w=>
 K (.returned t114) w) (DoX prog (mFA 26 t13 5) w (pk K) fun t115 w=>
 DoX prog (mLoad 24 t115) w (pk K) fun t116 w=>
 DoX prog (mB .len #[24] 3 #[false] #[t116]) w (pk K) fun t117 w=>
 LoopX [(.int .i64 0)] w (fun vs3 w N3=>∀_:Sg,S_pages_tree_node_2 t0 t3 t4 t101 t116 t117 (vs3.getD 0 undef) w N3 K)))
def S_pages_tree_node_0 (t0 t2 t3 t4 t6 t11:Value)(w:World)(K:Ending→World→Prop):Prop:=
 DoX prog (mLoad 26 t11) w (pk K) fun t26 w=>
 CallX prog 120 #[t0,t26] w (pk K) fun t27 w=>
 HeldX w (fun S2 w=>
 HDo prog (fun _=>True) (mNil t0) fun t29=>
 HDo prog (fun _=>True) (mFA 116 t29 0) fun t30=>
 HDo prog S2 (mLoad 28 t30) fun t31=>
 HDo prog S2 (mLoad 26 t11) fun t32=>
 (DoX prog (mBuildS 23 1 #[(0,(.string ⟨#[75,105,100,115]⟩))]) w (pm1 (pm1 (pm1 (pm1 (pm1 (pk K)))))) fun t33 w=>
 S2 w∧((CallX prog 58 #[t31,t32,t33] w (pm1 (pm1 (pm1 (pm1 (pm1 (pk K)))))) fun t34 w=>
 (DoX prog (mAlloc 26) w (pm1 (pm1 (pm1 (pm1 (pm1 (pk K)))))) fun t13 w=>
 S2 w∧(DoX prog (mStore 26 t13 t34) w (pm1 (pm1 (pm1 (pm1 (pm1 (pk K)))))) fun _ w=>
 (S_pages_tree_node_1 t0 t2 t3 t4 t6 t11 t27 t13 w K))))∧(DoX prog (mAlloc 26) w (pm1 (pm1 (pm1 (pm1 (pm1 (pk K)))))) fun t13_1 w=>
 S2 w∧(CallX prog 58 #[t31,t32,t33] w (pm1 (pm1 (pm1 (pm1 (pm1 (pk K)))))) fun t34_1 w=>
 (DoX prog (mStore 26 t13_1 t34_1) w (pm1 (pm1 (pm1 (pm1 (pm1 (pk K)))))) fun _ w=>
 (S_pages_tree_node_1 t0 t2 t3 t4 t6 t11 t27 t13_1 w K))))))∧(DoX prog (mAlloc 26) w (pm1 (pm1 (pm1 (pm1 (pm1 (pk K)))))) fun t13_2 w=>
 S2 w∧(DoX prog (mBuildS 23 1 #[(0,(.string ⟨#[75,105,100,115]⟩))]) w (pm1 (pm1 (pm1 (pm1 (pm1 (pk K)))))) fun t33_1 w=>
 S2 w∧(CallX prog 58 #[t31,t32,t33_1] w (pm1 (pm1 (pm1 (pm1 (pm1 (pk K)))))) fun t34_2 w=>
 (DoX prog (mStore 26 t13_2 t34_2) w (pm1 (pm1 (pm1 (pm1 (pm1 (pk K)))))) fun _ w=>
 (S_pages_tree_node_1 t0 t2 t3 t4 t6 t11 t27 t13_2 w K))))))
def S_pages_tree_node (t0 t1 t2 t3 t4:Value)(w:World)(K:Ending→World→Prop):Prop:=
 DoX prog (mBox 26 t1) w (pk K) fun t6 w=>
 HeldX w (fun S1 w=>
 HDo prog (fun _=>True) (mNil t0) fun t20=>
 HDo prog (fun _=>True) (mFA 116 t20 0) fun t21=>
 HDo prog S1 (mLoad 28 t21) fun t22=>
 HDo prog S1 (mLoad 26 t6) fun t23=>
 (CallX prog 39 #[t22,t23] w (pm1 (pm1 (pm1 (pm1 (pm1 (pk K)))))) fun t24 w=>
 (DoX prog (mAlloc 26) w (pm1 (pm1 (pm1 (pm1 (pm1 (pk K)))))) fun t11 w=>
 S1 w∧(DoX prog (mStore 26 t11 t24) w (pm1 (pm1 (pm1 (pm1 (pm1 (pk K)))))) fun _ w=>
 (S_pages_tree_node_0 t0 t2 t3 t4 t6 t11 w K))))∧(DoX prog (mAlloc 26) w (pm1 (pm1 (pm1 (pm1 (pm1 (pk K)))))) fun t11_1 w=>
 S1 w∧(CallX prog 39 #[t22,t23] w (pm1 (pm1 (pm1 (pm1 (pm1 (pk K)))))) fun t24_1 w=>
 (DoX prog (mStore 26 t11_1 t24_1) w (pm1 (pm1 (pm1 (pm1 (pm1 (pk K)))))) fun _ w=>
 (S_pages_tree_node_0 t0 t2 t3 t4 t6 t11_1 w K)))))
theorem S_pages_tree_node_eq (t0 t1 t2 t3 t4:Value)(w:World)(K:Ending→World→Prop):wpX prog 131 [] [(14,[118])] none (bodyOf Tryz.f92) (topQ prog [.tmp 10] K) (startX [t0,t1,t2,t3,t4]) [] w=S_pages_tree_node t0 t1 t2 t3 t4 w K:=by kernel_rfl
theorem S_pages_tree_node_ok {t0 t1 t2 t3 t4:Value}{w:World}{K:Ending→World→Prop}(h:S_pages_tree_node t0 t1 t2 t3 t4 w K):Calls prog 92 #[t0,t1,t2,t3,t4] w K:=
 calls_of_wpX Tryz.func92 rfl rfl rfl rfl (Eq.mpr (S_pages_tree_node_eq t0 t1 t2 t3 t4 w K) h)
def S_pages_tree_leaves (t0:Value)(w:World)(K:Ending→World→Prop):Prop:=
 DoX prog (mBox 113 t0) w (pk K) fun t1 w=>
 DoX prog (mFunc (.func 91) #[] #[t1]) w (pk K) fun t3 w=>
 K (.returned t3) w
theorem S_pages_tree_leaves_eq (t0:Value)(w:World)(K:Ending→World→Prop):wpX prog 4 [] [] none (bodyOf Tryz.f65) (topQ prog [.tmp 2] K) (startX [t0]) [] w=S_pages_tree_leaves t0 w K:=by kernel_rfl
theorem S_pages_tree_leaves_ok {t0:Value}{w:World}{K:Ending→World→Prop}(h:S_pages_tree_leaves t0 w K):Calls prog 65 #[t0] w K:=
 calls_of_wpX Tryz.func65 rfl rfl rfl rfl (Eq.mpr (S_pages_tree_leaves_eq t0 w K) h)
def S_pages_tree_leaves_1_0 (t0 t1 t5:Value)(w:World)(K:Ending→World→Prop):Prop:=
 DoX prog (mLoad 113 t1) w (pk K) fun t26 w=>
 DoX prog (mLoad 26 t5) w (pk K) fun t27 w=>
 CallX prog 92 #[t26,t27,(.slice none 0 0),(.int .i64 1),t0] w (pk K) fun t29 w=>
 K (.returned (.tuple #[])) w
def S_pages_tree_leaves_1 (t0 t1:Value)(w:World)(K:Ending→World→Prop):Prop:=
 DoX prog (mLoad 113 t1) w (pk K) fun t8 w=>
 DoX prog (mNil t8) w (pk K) fun t9 w=>
 DoX prog (mFA 116 t9 0) w (pk K) fun t10 w=>
 DoX prog (mFA 28 t10 1) w (pk K) fun t11 w=>
 DoX prog (mLoad 26 t11) w (pk K) fun t12 w=>
 CallX prog 85 #[t12,(.string ⟨#[82,111,111,116]⟩)] w (pk K) fun t13 w=>
 DoX prog (mExt t13 0) w (pk K) fun t14 w=>
 DoX prog (mExt t13 1) w (pk K) fun t15 w=>
 DoX prog (mAlloc 26) w (pk K) fun t3 w=>
 DoX prog (mStore 26 t3 t14) w (pk K) fun _ w=>
 HeldX w (fun S1 w=>
 HDo prog S1 (mLoad 113 t1) fun t17=>
 HDo prog (fun _=>True) (mNil t17) fun t18=>
 HDo prog (fun _=>True) (mFA 116 t18 0) fun t19=>
 HDo prog S1 (mLoad 28 t19) fun t20=>
 HDo prog S1 (mLoad 26 t3) fun t21=>
 (CallX prog 39 #[t20,t21] w (pm1 (pm1 (pm1 (pm1 (pm1 (pm1 (pm1 (pm1 (pm1 (pk K)))))))))) fun t22 w=>
 S1 w∧((CallX prog 85 #[t22,(.string ⟨#[80,97,103,101,115]⟩)] w (pm1 (pm1 (pm1 (pm1 (pm1 (pm1 (pm1 (pm1 (pm1 (pk K)))))))))) fun t23 w=>
 S1 w∧(HDo prog (fun _=>True) (mExt t23 0) fun t24=>
 HDo prog (fun _=>True) (mExt t23 1) fun t25=>
 DoX prog (mAlloc 26) w (pm1 (pm1 (pm1 (pm1 (pm1 (pm1 (pm1 (pm1 (pm1 (pk K)))))))))) fun t5 w=>
 S1 w∧(DoX prog (mStore 26 t5 t24) w (pm1 (pm1 (pm1 (pm1 (pm1 (pm1 (pm1 (pm1 (pm1 (pk K)))))))))) fun _ w=>
 (S_pages_tree_leaves_1_0 t0 t1 t5 w K))))∧(DoX prog (mAlloc 26) w (pm1 (pm1 (pm1 (pm1 (pm1 (pm1 (pm1 (pm1 (pm1 (pk K)))))))))) fun t5_1 w=>
 S1 w∧(CallX prog 85 #[t22,(.string ⟨#[80,97,103,101,115]⟩)] w (pm1 (pm1 (pm1 (pm1 (pm1 (pm1 (pm1 (pm1 (pm1 (pk K)))))))))) fun t23_1 w=>
 S1 w∧(HDo prog (fun _=>True) (mExt t23_1 0) fun t24_1=>
 HDo prog (fun _=>True) (mExt t23_1 1) fun t25_1=>
 DoX prog (mStore 26 t5_1 t24_1) w (pm1 (pm1 (pm1 (pm1 (pm1 (pm1 (pm1 (pm1 (pm1 (pk K)))))))))) fun _ w=>
 (S_pages_tree_leaves_1_0 t0 t1 t5_1 w K))))))∧(DoX prog (mAlloc 26) w (pm1 (pm1 (pm1 (pm1 (pm1 (pm1 (pm1 (pm1 (pm1 (pk K)))))))))) fun t5_2 w=>
 S1 w∧(CallX prog 39 #[t20,t21] w (pm1 (pm1 (pm1 (pm1 (pm1 (pm1 (pm1 (pm1 (pm1 (pk K)))))))))) fun t22_1 w=>
 S1 w∧(CallX prog 85 #[t22_1,(.string ⟨#[80,97,103,101,115]⟩)] w (pm1 (pm1 (pm1 (pm1 (pm1 (pm1 (pm1 (pm1 (pm1 (pk K)))))))))) fun t23_2 w=>
 S1 w∧(HDo prog (fun _=>True) (mExt t23_2 0) fun t24_2=>
 HDo prog (fun _=>True) (mExt t23_2 1) fun t25_2=>
 DoX prog (mStore 26 t5_2 t24_2) w (pm1 (pm1 (pm1 (pm1 (pm1 (pm1 (pm1 (pm1 (pm1 (pk K)))))))))) fun _ w=>
 (S_pages_tree_leaves_1_0 t0 t1 t5_2 w K))))))
theorem S_pages_tree_leaves_1_eq (t0 t1:Value)(w:World)(K:Ending→World→Prop):wpX prog 30 [] [] none (bodyOf Tryz.f91) (topQ prog [] K) (startX [t0,t1]) [] w=S_pages_tree_leaves_1 t0 t1 w K:=by kernel_rfl
theorem S_pages_tree_leaves_1_ok {t0 t1:Value}{w:World}{K:Ending→World→Prop}(h:S_pages_tree_leaves_1 t0 t1 w K):Calls prog 91 #[t0,t1] w K:=
 calls_of_wpX Tryz.func91 rfl rfl rfl rfl (Eq.mpr (S_pages_tree_leaves_1_eq t0 t1 w K) h)
def S_pages_all_p0 (x0:Nat)(K:Ending→World→Prop):=pdM prog [.val (.slice none 0 0),.val (.int .i64 0)] K [(mkD x0)]
def S_pages_all (t0:Value)(w:World)(K:Ending→World→Prop):Prop:=
 DoX prog (mBox 28 t0) w (pk K) fun t1 w=>
 DoX prog (mLoad 28 t1) w (pk K) fun t8 w=>
 CallX prog 64 #[t8] w (pk K) fun t9 w=>
 DoX prog (mEq .neq 32 (.tmp 10) (.const (.int .i64 0)) t9 (.int .i64 0)) w (pk K) fun t11 w=>
 IfX t11 (K (.returned (.tuple #[(.slice none 0 0),t9])) w) (DoX prog (mLoad 28 t1) w (pk K) fun t13 w=>
 DoX prog (mMap 114 none) w (pk K) fun t14 w=>
 DoX prog (mBuild 116 #[(0,t13),(1,t14)]) w (pk K) fun t15 w=>
 DoX prog (mBox 116 t15) w (pk K) fun t16 w=>
 DoX prog (mAlloc 72) w (pk K) fun t6 w=>
 CallX prog 65 #[t16] w (pk K) fun t18 w=>
 RangeX prog none 1 t18 w (fun l1 as1 w R1=>
 DoX prog (mAlloc 76) w pkR fun t7 w=>
 DoX prog (mStore 76 t7 (as1.getD 0 undef)) w pkR fun _ w=>
 BegX prog l1 w (fun w=>
 DoX prog (mLoad 72 t6) w pkR fun t20 w=>
 DoX prog (mLoad 76 t7) w pkR fun t21 w=>
 DoX prog (mBuildS 72 1 #[(0,t21)]) w pkR fun t22 w=>
 DoX prog (mB .append #[72,72] 72 #[false,false] #[t20,t22]) w pkR fun t23 w=>
 DoX prog (mStore 72 t6 t23) w pkR fun _ w=>
 EndX prog l1 none w R1))
 [(none,fun r1 w=>
 DoX prog (mNil t16) w (S_pages_all_p0 r1 K) fun t25 w=>
 DoX prog (mFA 116 t25 3) w (S_pages_all_p0 r1 K) fun t26 w=>
 DoX prog (mLoad 32 t26) w (S_pages_all_p0 r1 K) fun t27 w=>
 DoX prog (mEq .neq 32 (.tmp 27) (.const (.int .i64 0)) t27 (.int .i64 0)) w (S_pages_all_p0 r1 K) fun t28 w=>
 IfX t28 (QuietX w (fun C2=>
 QDo prog C2 (mNil t16) fun t30=>
 QDo prog C2 (mFA 116 t30 3) fun t31=>
 QDo prog C2 (mLoad 32 t31) fun t32=>
 ∀w,C2 w →
 LeaveM prog [.val (.slice none 0 0),.val t32] K [(mkD r1)] .returning w)) (DoX prog (mLoad 72 t6) w (S_pages_all_p0 r1 K) fun t33 w=>
 LeaveM prog [.val t33,.val (.int .i64 0)] K [(mkD r1)] .returning w))])
theorem S_pages_all_eq (t0:Value)(w:World)(K:Ending→World→Prop):wpX prog 34 [] [] none (bodyOf Tryz.f35) (topM prog [.tmp 2,.tmp 3] K) (startX [t0]) [] w=S_pages_all t0 w K:=by kernel_rfl
theorem S_pages_all_ok {t0:Value}{w:World}{K:Ending→World→Prop}(h:S_pages_all t0 w K):Calls prog 35 #[t0] w K:=
 calls_of_wpM Tryz.func35 rfl rfl rfl rfl (Eq.mpr (S_pages_all_eq t0 w K) h)
def S_pages_leaf_inherited_0 (t2 t4 t6 t7 t12 t13 t14:Value)(w:World)(N1:List Value→World→Prop)(K:Ending→World→Prop):Prop:=
 DoX prog (mBin .lss 3 t14 t13) w (pk K) fun t15 w=>
 IfX t15 (DoX prog (mIA 24 t12 t14) w (pk K) fun t16 w=>
 DoX prog (mLoad 26 t16) w (pk K) fun t17 w=>
 DoX prog (mAlloc 26) w (pk K) fun t9 w=>
 DoX prog (mStore 26 t9 t17) w (pk K) fun _ w=>
 DoX prog (mLoad 28 t4) w (pk K) fun t18 w=>
 DoX prog (mLoad 26 t9) w (pk K) fun t19 w=>
 DoX prog (mBuildS 23 1 #[(0,t2)]) w (pk K) fun t21 w=>
 CallX prog 58 #[t18,t19,t21] w (pk K) fun t22 w=>
 DoX prog (mAlloc 26) w (pk K) fun t10 w=>
 DoX prog (mStore 26 t10 t22) w (pk K) fun _ w=>
 DoX prog (mFA 26 t10 0) w (pk K) fun t23 w=>
 DoX prog (mLoad 3 t23) w (pk K) fun t24 w=>
 DoX prog (mEq .neq 3 (.tmp 24) (.const (.int .i64 0)) t24 (.int .i64 0)) w (pk K) fun t25 w=>
 IfX t25 (DoX prog (mLoad 26 t10) w (pk K) fun t26 w=>
 DoX prog (mStore 26 t6 t26) w (pk K) fun _ w=>
 RetX prog [.cell t6 26,.val (.bool true)] w K) (DoX prog (mBin .add 3 t14 (.int .i64 1)) w (pk K) fun t27 w=>
 N1 [t7,t27] w)) (DoX prog (mBuild 26 #[]) w (pk K) fun t28 w=>
 DoX prog (mStore 26 t6 t28) w (pk K) fun _ w=>
 RetX prog [.cell t6 26,.val (.bool false)] w K)
def S_pages_leaf_inherited (t0 t1 t2:Value)(w:World)(K:Ending→World→Prop):Prop:=
 DoX prog (mBox 76 t0) w (pk K) fun t3 w=>
 DoX prog (mBox 28 t1) w (pk K) fun t4 w=>
 DoX prog (mAlloc 26) w (pk K) fun t6 w=>
 DoX prog (mFA 76 t3 1) w (pk K) fun t11 w=>
 DoX prog (mLoad 24 t11) w (pk K) fun t12 w=>
 DoX prog (mB .len #[24] 3 #[false] #[t12]) w (pk K) fun t13 w=>
 LoopX [(.bool false),(.int .i64 0)] w (fun vs1 w N1=>∀_:Sg,S_pages_leaf_inherited_0 t2 t4 t6 (vs1.getD 0 undef) t12 t13 (vs1.getD 1 undef) w N1 K)
theorem S_pages_leaf_inherited_eq (t0 t1 t2:Value)(w:World)(K:Ending→World→Prop):wpX prog 29 [] [(2,[7,14])] none (bodyOf Tryz.f66) (topQ prog [.cell 6 26,.tmp 7] K) (startX [t0,t1,t2]) [] w=S_pages_leaf_inherited t0 t1 t2 w K:=by kernel_rfl
theorem S_pages_leaf_inherited_ok {t0 t1 t2:Value}{w:World}{K:Ending→World→Prop}(h:S_pages_leaf_inherited t0 t1 t2 w K):Calls prog 66 #[t0,t1,t2] w K:=
 calls_of_wpX Tryz.func66 rfl rfl rfl rfl (Eq.mpr (S_pages_leaf_inherited_eq t0 t1 t2 w K) h)
def S_pages_cut (t0 t1:Value)(w:World)(K:Ending→World→Prop):Prop:=
 DoX prog (mBox 43 t0) w (pk K) fun t2 w=>
 DoX prog (mBox 43 t1) w (pk K) fun t3 w=>
 DoX prog (mAlloc 43) w (pk K) fun t4 w=>
 DoX prog (mFA 43 t2 0) w (pk K) fun t7 w=>
 DoX prog (mLoad 2 t7) w (pk K) fun t8 w=>
 DoX prog (mFA 43 t3 0) w (pk K) fun t9 w=>
 DoX prog (mLoad 2 t9) w (pk K) fun t10 w=>
 DoX prog (mB .max #[2,2] 2 #[false,false] #[t8,t10]) w (pk K) fun t11 w=>
 DoX prog (mFA 43 t2 1) w (pk K) fun t12 w=>
 DoX prog (mLoad 2 t12) w (pk K) fun t13 w=>
 DoX prog (mFA 43 t3 1) w (pk K) fun t14 w=>
 DoX prog (mLoad 2 t14) w (pk K) fun t15 w=>
 DoX prog (mB .max #[2,2] 2 #[false,false] #[t13,t15]) w (pk K) fun t16 w=>
 DoX prog (mFA 43 t2 2) w (pk K) fun t17 w=>
 DoX prog (mLoad 2 t17) w (pk K) fun t18 w=>
 DoX prog (mFA 43 t3 2) w (pk K) fun t19 w=>
 DoX prog (mLoad 2 t19) w (pk K) fun t20 w=>
 DoX prog (mB .min #[2,2] 2 #[false,false] #[t18,t20]) w (pk K) fun t21 w=>
 DoX prog (mFA 43 t2 3) w (pk K) fun t22 w=>
 DoX prog (mLoad 2 t22) w (pk K) fun t23 w=>
 DoX prog (mFA 43 t3 3) w (pk K) fun t24 w=>
 DoX prog (mLoad 2 t24) w (pk K) fun t25 w=>
 DoX prog (mB .min #[2,2] 2 #[false,false] #[t23,t25]) w (pk K) fun t26 w=>
 DoX prog (mBuild 43 #[(0,t11),(1,t16),(2,t21),(3,t26)]) w (pk K) fun t27 w=>
 DoX prog (mAlloc 43) w (pk K) fun t6 w=>
 DoX prog (mStore 43 t6 t27) w (pk K) fun _ w=>
 HeldX w (fun S1 w=>
 HDo prog S1 (mLoad 43 t6) fun t28=>
 HDo prog (fun _=>True) (mFA 43 t6 0) fun t29=>
 HDo prog S1 (mLoad 2 t29) fun t30=>
 HDo prog (fun _=>True) (mFA 43 t6 2) fun t31=>
 HDo prog S1 (mLoad 2 t31) fun t32=>
 HDo prog (fun _=>True) (mBin .lss 2 t30 t32) fun t33=>
 GQ t33 true (fun E=>HDo prog (fun _=>True) (mFA 43 t6 1) E) fun t35=>
 GQ t33 true (fun E=>HDo prog S1 (mLoad 2 t35) E) fun t36=>
 GQ t33 true (fun E=>HDo prog (fun _=>True) (mFA 43 t6 3) E) fun t37=>
 GQ t33 true (fun E=>HDo prog S1 (mLoad 2 t37) E) fun t38=>
 GQ t33 true (fun E=>HDo prog (fun _=>True) (mBin .lss 2 t36 t38) E) fun t39=>
 HDo prog (fun _=>True) (mPick t33 t39 (.bool false)) fun t40=>
 DoX prog (mStore 43 t4 t28) w (pm1 (pm1 (pm1 (pm1 (pm1 (pm1 (pm1 (pm1 (pm1 (pm1 (pm1 (pm1 (pm1 (pm1 (pk K))))))))))))))) fun _ w=>
 S1 w∧(RetX prog [.cell t4 43,.val t40] w K))
theorem S_pages_cut_eq (t0 t1:Value)(w:World)(K:Ending→World→Prop):wpX prog 41 [] [] none (bodyOf Tryz.f67) (topQ prog [.cell 4 43,.tmp 5] K) (startX [t0,t1]) [] w=S_pages_cut t0 t1 w K:=by kernel_rfl
theorem S_pages_cut_ok {t0 t1:Value}{w:World}{K:Ending→World→Prop}(h:S_pages_cut t0 t1 w K):Calls prog 67 #[t0,t1] w K:=
 calls_of_wpX Tryz.func67 rfl rfl rfl rfl (Eq.mpr (S_pages_cut_eq t0 t1 w K) h)
def S_pages_leaf_page_2 (t4 t6:Value)(w:World)(K:Ending→World→Prop):Prop:=
 DoX prog (mLoad 48 t6) w (pk K) fun t105 w=>
 DoX prog (mStore 48 t4 t105) w (pk K) fun _ w=>
 RetX prog [.cell t4 48,.val (.int .i64 0)] w K
def S_pages_leaf_page_1 (t2 t3 t4 t5 t6:Value)(w:World)(K:Ending→World→Prop):Prop:=
 JoinX (fun J3=>
 DoX prog (mLoad 76 t2) w (pk K) fun t93 w=>
 DoX prog (mLoad 28 t3) w (pk K) fun t94 w=>
 CallX prog 66 #[t93,t94,(.string ⟨#[82,101,115,111,117,114,99,101,115]⟩)] w (pk K) fun t95 w=>
 DoX prog (mExt t95 0) w (pk K) fun t96 w=>
 DoX prog (mExt t95 1) w (pk K) fun t97 w=>
 DoX prog (mAlloc 26) w (pk K) fun t18 w=>
 DoX prog (mStore 26 t18 t96) w (pk K) fun _ w=>
 IfX t97 (DoX prog (mFA 26 t18 0) w (pk K) fun t99 w=>
 DoX prog (mLoad 3 t99) w (pk K) fun t100 w=>
 DoX prog (mEq .neq 3 (.tmp 100) (.const (.int .i64 7)) t100 (.int .i64 7)) w (pk K) fun t101 w=>
 IfX t101 (DoX prog (mBuild 48 #[]) w (pk K) fun t102 w=>
 DoX prog (mStore 48 t4 t102) w (pk K) fun _ w=>
 RetX prog [.cell t4 48,.val (.int .i64 24)] w K) (DoX prog (mLoad 26 t18) w (pk K) fun t103 w=>
 DoX prog (mFA 48 t6 4) w (pk K) fun t104 w=>
 DoX prog (mStore 26 t104 t103) w (pk K) fun _ w=>
 J3 [t5] w)) (J3 [t5] w)) (fun vs3 w=>∀_:Sg,S_pages_leaf_page_2 t4 t6 w K)
def S_pages_leaf_page_0 (t2 t3 t4 t5 t6:Value)(w:World)(K:Ending→World→Prop):Prop:=
 JoinX (fun J2=>
 DoX prog (mLoad 76 t2) w (pk K) fun t70 w=>
 DoX prog (mLoad 28 t3) w (pk K) fun t71 w=>
 CallX prog 66 #[t70,t71,(.string ⟨#[82,111,116,97,116,101]⟩)] w (pk K) fun t72 w=>
 DoX prog (mExt t72 0) w (pk K) fun t73 w=>
 DoX prog (mExt t72 1) w (pk K) fun t74 w=>
 DoX prog (mAlloc 26) w (pk K) fun t16 w=>
 DoX prog (mStore 26 t16 t73) w (pk K) fun _ w=>
 IfX t74 (DoX prog (mFA 26 t16 0) w (pk K) fun t76 w=>
 DoX prog (mLoad 3 t76) w (pk K) fun t77 w=>
 DoX prog (mEq .neq 3 (.tmp 77) (.const (.int .i64 2)) t77 (.int .i64 2)) w (pk K) fun t78 w=>
 GDo t78 false (fun E=>DoX prog (mFA 26 t16 1) w (pk K) E) w fun t80 w=>
 GDo t78 false (fun E=>DoX prog (mLoad 2 t80) w (pk K) E) w fun t81 w=>
 GDo t78 false (fun E=>DoX prog (mBin .rem 2 t81 (.int .i64 90)) w (pk K) E) w fun t82 w=>
 GDo t78 false (fun E=>DoX prog (mEq .neq 2 (.tmp 82) (.const (.int .i64 0)) t82 (.int .i64 0)) w (pk K) E) w fun t83 w=>
 DoX prog (mPick t78 (.bool true) t83) w (pk K) fun t84 w=>
 IfX t84 (DoX prog (mBuild 48 #[]) w (pk K) fun t85 w=>
 DoX prog (mStore 48 t4 t85) w (pk K) fun _ w=>
 RetX prog [.cell t4 48,.val (.int .i64 24)] w K) (DoX prog (mFA 26 t16 1) w (pk K) fun t86 w=>
 DoX prog (mLoad 2 t86) w (pk K) fun t87 w=>
 DoX prog (mBin .rem 2 t87 (.int .i64 360)) w (pk K) fun t88 w=>
 DoX prog (mBin .add 2 t88 (.int .i64 360)) w (pk K) fun t89 w=>
 DoX prog (mBin .rem 2 t89 (.int .i64 360)) w (pk K) fun t90 w=>
 DoX prog (mFA 48 t6 3) w (pk K) fun t91 w=>
 DoX prog (mStore 3 t91 t90) w (pk K) fun _ w=>
 J2 [t5] w)) (J2 [t5] w)) (fun vs2 w=>∀_:Sg,S_pages_leaf_page_1 t2 t3 t4 (vs2.getD 0 undef) t6 w K)
def S_pages_leaf_page (t0 t1:Value)(w:World)(K:Ending→World→Prop):Prop:=
 DoX prog (mBox 76 t0) w (pk K) fun t2 w=>
 DoX prog (mBox 28 t1) w (pk K) fun t3 w=>
 DoX prog (mAlloc 48) w (pk K) fun t4 w=>
 DoX prog (mFA 76 t2 0) w (pk K) fun t20 w=>
 DoX prog (mLoad 3 t20) w (pk K) fun t21 w=>
 DoX prog (mBuild 26 #[(0,(.int .i64 7))]) w (pk K) fun t22 w=>
 DoX prog (mBuild 48 #[(0,t21),(4,t22)]) w (pk K) fun t23 w=>
 DoX prog (mAlloc 48) w (pk K) fun t6 w=>
 DoX prog (mStore 48 t6 t23) w (pk K) fun _ w=>
 DoX prog (mLoad 76 t2) w (pk K) fun t25 w=>
 DoX prog (mLoad 28 t3) w (pk K) fun t26 w=>
 CallX prog 66 #[t25,t26,(.string ⟨#[77,101,100,105,97,66,111,120]⟩)] w (pk K) fun t27 w=>
 DoX prog (mExt t27 0) w (pk K) fun t28 w=>
 DoX prog (mExt t27 1) w (pk K) fun t29 w=>
 DoX prog (mAlloc 26) w (pk K) fun t7 w=>
 DoX prog (mStore 26 t7 t28) w (pk K) fun _ w=>
 DoX prog (mLoad 28 t3) w (pk K) fun t31 w=>
 DoX prog (mLoad 26 t7) w (pk K) fun t32 w=>
 CallX prog 18 #[t31,t32] w (pk K) fun t33 w=>
 DoX prog (mExt t33 0) w (pk K) fun t34 w=>
 DoX prog (mExt t33 1) w (pk K) fun t35 w=>
 DoX prog (mFA 48 t6 1) w (pk K) fun t36 w=>
 DoX prog (mStore 43 t36 t34) w (pk K) fun _ w=>
 DoX prog (mEq .neq 32 (.tmp 37) (.const (.int .i64 0)) t35 (.int .i64 0)) w (pk K) fun t38 w=>
 IfX t38 (DoX prog (mBuild 48 #[]) w (pk K) fun t39 w=>
 DoX prog (mStore 48 t4 t39) w (pk K) fun _ w=>
 RetX prog [.cell t4 48,.val (.int .i64 24)] w K) (DoX prog (mFA 48 t6 1) w (pk K) fun t40 w=>
 DoX prog (mLoad 43 t40) w (pk K) fun t41 w=>
 DoX prog (mFA 48 t6 2) w (pk K) fun t42 w=>
 DoX prog (mStore 43 t42 t41) w (pk K) fun _ w=>
 JoinX (fun J1=>
 DoX prog (mLoad 76 t2) w (pk K) fun t44 w=>
 DoX prog (mLoad 28 t3) w (pk K) fun t45 w=>
 CallX prog 66 #[t44,t45,(.string ⟨#[67,114,111,112,66,111,120]⟩)] w (pk K) fun t46 w=>
 DoX prog (mExt t46 0) w (pk K) fun t47 w=>
 DoX prog (mExt t46 1) w (pk K) fun t48 w=>
 DoX prog (mAlloc 26) w (pk K) fun t10 w=>
 DoX prog (mStore 26 t10 t47) w (pk K) fun _ w=>
 IfX t48 (DoX prog (mLoad 28 t3) w (pk K) fun t51 w=>
 DoX prog (mLoad 26 t10) w (pk K) fun t52 w=>
 CallX prog 18 #[t51,t52] w (pk K) fun t53 w=>
 DoX prog (mExt t53 0) w (pk K) fun t54 w=>
 DoX prog (mExt t53 1) w (pk K) fun t55 w=>
 DoX prog (mAlloc 43) w (pk K) fun t12 w=>
 DoX prog (mStore 43 t12 t54) w (pk K) fun _ w=>
 DoX prog (mEq .neq 32 (.tmp 56) (.const (.int .i64 0)) t55 (.int .i64 0)) w (pk K) fun t57 w=>
 IfX t57 (DoX prog (mBuild 48 #[]) w (pk K) fun t58 w=>
 DoX prog (mStore 48 t4 t58) w (pk K) fun _ w=>
 RetX prog [.cell t4 48,.val (.int .i64 24)] w K) (DoX prog (mLoad 43 t12) w (pk K) fun t60 w=>
 DoX prog (mFA 48 t6 1) w (pk K) fun t61 w=>
 DoX prog (mLoad 43 t61) w (pk K) fun t62 w=>
 CallX prog 67 #[t60,t62] w (pk K) fun t63 w=>
 DoX prog (mExt t63 0) w (pk K) fun t64 w=>
 DoX prog (mExt t63 1) w (pk K) fun t65 w=>
 DoX prog (mAlloc 43) w (pk K) fun t14 w=>
 DoX prog (mStore 43 t14 t64) w (pk K) fun _ w=>
 IfX t65 (DoX prog (mLoad 43 t14) w (pk K) fun t67 w=>
 DoX prog (mFA 48 t6 2) w (pk K) fun t68 w=>
 DoX prog (mStore 43 t68 t67) w (pk K) fun _ w=>
 J1 [(.int .i64 0)] w) (J1 [(.int .i64 0)] w))) (J1 [(.int .i64 0)] w)) (fun vs1 w=>∀_:Sg,S_pages_leaf_page_0 t2 t3 t4 (vs1.getD 0 undef) t6 w K))
theorem S_pages_leaf_page_eq (t0 t1:Value)(w:World)(K:Ending→World→Prop):wpX prog 106 [(16,[5]),(21,[5]),(26,[5])] [] none (bodyOf Tryz.f36) (topQ prog [.cell 4 48,.tmp 5] K) (startX [t0,t1]) [] w=S_pages_leaf_page t0 t1 w K:=by kernel_rfl
theorem S_pages_leaf_page_ok {t0 t1:Value}{w:World}{K:Ending→World→Prop}(h:S_pages_leaf_page t0 t1 w K):Calls prog 36 #[t0,t1] w K:=
 calls_of_wpX Tryz.func36 rfl rfl rfl rfl (Eq.mpr (S_pages_leaf_page_eq t0 t1 w K) h)
def S_pages_List_0 (t1 t6 t19 t20 t21:Value)(w:World)(N1:List Value→World→Prop)(K:Ending→World→Prop):Prop:=
 DoX prog (mBin .lss 3 t21 t20) w (pk K) fun t22 w=>
 IfX t22 (DoX prog (mIA 72 t19 t21) w (pk K) fun t23 w=>
 DoX prog (mLoad 76 t23) w (pk K) fun t24 w=>
 DoX prog (mAlloc 76) w (pk K) fun t8 w=>
 DoX prog (mStore 76 t8 t24) w (pk K) fun _ w=>
 DoX prog (mLoad 76 t8) w (pk K) fun t26 w=>
 DoX prog (mLoad 28 t1) w (pk K) fun t27 w=>
 CallX prog 36 #[t26,t27] w (pk K) fun t28 w=>
 DoX prog (mExt t28 0) w (pk K) fun t29 w=>
 DoX prog (mExt t28 1) w (pk K) fun t30 w=>
 DoX prog (mAlloc 48) w (pk K) fun t9 w=>
 DoX prog (mStore 48 t9 t29) w (pk K) fun _ w=>
 DoX prog (mEq .neq 32 (.tmp 31) (.const (.int .i64 0)) t30 (.int .i64 0)) w (pk K) fun t32 w=>
 IfX t32 (K (.returned (.tuple #[(.slice none 0 0),t30])) w) (DoX prog (mLoad 48 t9) w (pk K) fun t35 w=>
 DoX prog (mBuildS 31 1 #[(0,t35)]) w (pk K) fun t36 w=>
 DoX prog (mB .append #[31,31] 31 #[false,false] #[t6,t36]) w (pk K) fun t37 w=>
 DoX prog (mBin .add 3 t21 (.int .i64 1)) w (pk K) fun t38 w=>
 N1 [t37,t38] w)) (K (.returned (.tuple #[t6,(.int .i64 0)])) w)
def S_pages_List (t0:Value)(w:World)(K:Ending→World→Prop):Prop:=
 DoX prog (mBox 28 t0) w (pk K) fun t1 w=>
 DoX prog (mLoad 28 t1) w (pk K) fun t12 w=>
 CallX prog 35 #[t12] w (pk K) fun t13 w=>
 DoX prog (mExt t13 0) w (pk K) fun t14 w=>
 DoX prog (mExt t13 1) w (pk K) fun t15 w=>
 DoX prog (mEq .neq 32 (.tmp 16) (.const (.int .i64 0)) t15 (.int .i64 0)) w (pk K) fun t17 w=>
 IfX t17 (K (.returned (.tuple #[(.slice none 0 0),t15])) w) (DoX prog (mB .len #[72] 3 #[false] #[t14]) w (pk K) fun t20 w=>
 LoopX [(.slice none 0 0),(.int .i64 0)] w (fun vs1 w N1=>∀_:Sg,S_pages_List_0 t1 (vs1.getD 0 undef) t14 t20 (vs1.getD 1 undef) w N1 K))
theorem S_pages_List_eq (t0:Value)(w:World)(K:Ending→World→Prop):wpX prog 40 [] [(6,[6,21])] none (bodyOf Tryz.f10) (topQ prog [.tmp 2,.tmp 3] K) (startX [t0]) [] w=S_pages_List t0 w K:=by kernel_rfl
theorem S_pages_List_ok {t0:Value}{w:World}{K:Ending→World→Prop}(h:S_pages_List t0 w K):Calls prog 10 #[t0] w K:=
 calls_of_wpX Tryz.func10 rfl rfl rfl rfl (Eq.mpr (S_pages_List_eq t0 w K) h)
def S_pages_Count (t0:Value)(w:World)(K:Ending→World→Prop):Prop:=
 DoX prog (mBox 28 t0) w (pk K) fun t1 w=>
 DoX prog (mLoad 28 t1) w (pk K) fun t7 w=>
 CallX prog 35 #[t7] w (pk K) fun t8 w=>
 DoX prog (mExt t8 0) w (pk K) fun t9 w=>
 DoX prog (mExt t8 1) w (pk K) fun t10 w=>
 DoX prog (mB .len #[72] 3 #[false] #[t9]) w (pk K) fun t12 w=>
 K (.returned (.tuple #[t12,t10])) w
theorem S_pages_Count_eq (t0:Value)(w:World)(K:Ending→World→Prop):wpX prog 14 [] [] none (bodyOf Tryz.f12) (topQ prog [.tmp 2,.tmp 3] K) (startX [t0]) [] w=S_pages_Count t0 w K:=by kernel_rfl
theorem S_pages_Count_ok {t0:Value}{w:World}{K:Ending→World→Prop}(h:S_pages_Count t0 w K):Calls prog 12 #[t0] w K:=
 calls_of_wpX Tryz.func12 rfl rfl rfl rfl (Eq.mpr (S_pages_Count_eq t0 w K) h)
def S_pages_at (t0 t1:Value)(w:World)(K:Ending→World→Prop):Prop:=
 DoX prog (mBox 28 t0) w (pk K) fun t2 w=>
 DoX prog (mAlloc 76) w (pk K) fun t4 w=>
 DoX prog (mLoad 28 t2) w (pk K) fun t9 w=>
 CallX prog 35 #[t9] w (pk K) fun t10 w=>
 DoX prog (mExt t10 0) w (pk K) fun t11 w=>
 DoX prog (mExt t10 1) w (pk K) fun t12 w=>
 DoX prog (mEq .neq 32 (.tmp 13) (.const (.int .i64 0)) t12 (.int .i64 0)) w (pk K) fun t14 w=>
 IfX t14 (DoX prog (mBuild 76 #[]) w (pk K) fun t15 w=>
 DoX prog (mStore 76 t4 t15) w (pk K) fun _ w=>
 RetX prog [.cell t4 76,.val t12] w K) (DoX prog (mBin .lss 3 t1 (.int .i64 0)) w (pk K) fun t18 w=>
 GDo t18 false (fun E=>E t1 w) w fun t20 w=>
 GDo t18 false (fun E=>E t11 w) w fun t21 w=>
 GDo t18 false (fun E=>DoX prog (mB .len #[72] 3 #[false] #[t21]) w (pk K) E) w fun t22 w=>
 GDo t18 false (fun E=>DoX prog (mBin .geq 3 t20 t22) w (pk K) E) w fun t23 w=>
 DoX prog (mPick t18 (.bool true) t23) w (pk K) fun t24 w=>
 IfX t24 (DoX prog (mBuild 76 #[]) w (pk K) fun t25 w=>
 DoX prog (mStore 76 t4 t25) w (pk K) fun _ w=>
 RetX prog [.cell t4 76,.val (.int .i64 8)] w K) (DoX prog (mIA 72 t11 t1) w (pk K) fun t28 w=>
 DoX prog (mLoad 76 t28) w (pk K) fun t29 w=>
 DoX prog (mStore 76 t4 t29) w (pk K) fun _ w=>
 RetX prog [.cell t4 76,.val (.int .i64 0)] w K))
theorem S_pages_at_eq (t0 t1:Value)(w:World)(K:Ending→World→Prop):wpX prog 30 [] [] none (bodyOf Tryz.f43) (topQ prog [.cell 4 76,.tmp 5] K) (startX [t0,t1]) [] w=S_pages_at t0 t1 w K:=by kernel_rfl
theorem S_pages_at_ok {t0 t1:Value}{w:World}{K:Ending→World→Prop}(h:S_pages_at t0 t1 w K):Calls prog 43 #[t0,t1] w K:=
 calls_of_wpX Tryz.func43 rfl rfl rfl rfl (Eq.mpr (S_pages_at_eq t0 t1 w K) h)
def S_pages_Get (t0 t1:Value)(w:World)(K:Ending→World→Prop):Prop:=
 DoX prog (mBox 28 t0) w (pk K) fun t2 w=>
 DoX prog (mAlloc 48) w (pk K) fun t4 w=>
 DoX prog (mLoad 28 t2) w (pk K) fun t9 w=>
 CallX prog 43 #[t9,t1] w (pk K) fun t11 w=>
 DoX prog (mExt t11 0) w (pk K) fun t12 w=>
 DoX prog (mExt t11 1) w (pk K) fun t13 w=>
 DoX prog (mAlloc 76) w (pk K) fun t6 w=>
 DoX prog (mStore 76 t6 t12) w (pk K) fun _ w=>
 DoX prog (mEq .neq 32 (.tmp 14) (.const (.int .i64 0)) t13 (.int .i64 0)) w (pk K) fun t15 w=>
 IfX t15 (DoX prog (mBuild 48 #[]) w (pk K) fun t16 w=>
 DoX prog (mStore 48 t4 t16) w (pk K) fun _ w=>
 RetX prog [.cell t4 48,.val t13] w K) (DoX prog (mLoad 76 t6) w (pk K) fun t18 w=>
 DoX prog (mLoad 28 t2) w (pk K) fun t19 w=>
 CallX prog 36 #[t18,t19] w (pk K) fun t20 w=>
 DoX prog (mExt t20 0) w (pk K) fun t21 w=>
 DoX prog (mExt t20 1) w (pk K) fun t22 w=>
 DoX prog (mStore 48 t4 t21) w (pk K) fun _ w=>
 RetX prog [.cell t4 48,.val t22] w K)
theorem S_pages_Get_eq (t0 t1:Value)(w:World)(K:Ending→World→Prop):wpX prog 23 [] [] none (bodyOf Tryz.f20) (topQ prog [.cell 4 48,.tmp 5] K) (startX [t0,t1]) [] w=S_pages_Get t0 t1 w K:=by kernel_rfl
theorem S_pages_Get_ok {t0 t1:Value}{w:World}{K:Ending→World→Prop}(h:S_pages_Get t0 t1 w K):Calls prog 20 #[t0,t1] w K:=
 calls_of_wpX Tryz.func20 rfl rfl rfl rfl (Eq.mpr (S_pages_Get_eq t0 t1 w K) h)
def S_pages_Place_0 (t1 t15 t16 t17:Value)(w:World)(N1:List Value→World→Prop)(K:Ending→World→Prop):Prop:=
 DoX prog (mBin .lss 3 t17 t16) w (pk K) fun t18 w=>
 IfX t18 (DoX prog (mIA 72 t15 t17) w (pk K) fun t20 w=>
 DoX prog (mLoad 76 t20) w (pk K) fun t21 w=>
 DoX prog (mAlloc 76) w (pk K) fun t9 w=>
 DoX prog (mStore 76 t9 t21) w (pk K) fun _ w=>
 DoX prog (mFA 76 t9 0) w (pk K) fun t22 w=>
 DoX prog (mLoad 3 t22) w (pk K) fun t23 w=>
 DoX prog (mEq .eql 3 (.tmp 23) (.tmp 24) t23 t1) w (pk K) fun t25 w=>
 IfX t25 (K (.returned (.tuple #[t17,(.bool true)])) w) (DoX prog (mBin .add 3 t17 (.int .i64 1)) w (pk K) fun t27 w=>
 N1 [t27] w)) (K (.returned (.tuple #[(.int .i64 0),(.bool false)])) w)
def S_pages_Place (t0 t1:Value)(w:World)(K:Ending→World→Prop):Prop:=
 DoX prog (mBox 28 t0) w (pk K) fun t2 w=>
 DoX prog (mLoad 28 t2) w (pk K) fun t11 w=>
 CallX prog 35 #[t11] w (pk K) fun t12 w=>
 DoX prog (mExt t12 0) w (pk K) fun t13 w=>
 DoX prog (mExt t12 1) w (pk K) fun t14 w=>
 DoX prog (mB .len #[72] 3 #[false] #[t13]) w (pk K) fun t16 w=>
 LoopX [(.int .i64 0)] w (fun vs1 w N1=>∀_:Sg,S_pages_Place_0 t1 t13 t16 (vs1.getD 0 undef) w N1 K)
theorem S_pages_Place_eq (t0 t1:Value)(w:World)(K:Ending→World→Prop):wpX prog 28 [] [(3,[17])] none (bodyOf Tryz.f14) (topQ prog [.tmp 4,.tmp 5] K) (startX [t0,t1]) [] w=S_pages_Place t0 t1 w K:=by kernel_rfl
theorem S_pages_Place_ok {t0 t1:Value}{w:World}{K:Ending→World→Prop}(h:S_pages_Place t0 t1 w K):Calls prog 14 #[t0,t1] w K:=
 calls_of_wpX Tryz.func14 rfl rfl rfl rfl (Eq.mpr (S_pages_Place_eq t0 t1 w K) h)
def S_pages_Rect_0 (t2 t4 t5 t6 t25 t26 t27:Value)(w:World)(N1:List Value→World→Prop)(K:Ending→World→Prop):Prop:=
 DoX prog (mBin .lss 3 t27 t26) w (pk K) fun t28 w=>
 IfX t28 (DoX prog (mIA 24 t25 t27) w (pk K) fun t30 w=>
 DoX prog (mLoad 26 t30) w (pk K) fun t31 w=>
 DoX prog (mAlloc 26) w (pk K) fun t8 w=>
 DoX prog (mStore 26 t8 t31) w (pk K) fun _ w=>
 DoX prog (mLoad 28 t2) w (pk K) fun t33 w=>
 DoX prog (mLoad 26 t8) w (pk K) fun t34 w=>
 CallX prog 39 #[t33,t34] w (pk K) fun t35 w=>
 CallX prog 40 #[t35] w (pk K) fun t36 w=>
 DoX prog (mExt t36 0) w (pk K) fun t37 w=>
 DoX prog (mExt t36 1) w (pk K) fun t38 w=>
 DoX prog (mUn .not t38) w (pk K) fun t40 w=>
 IfX t40 (DoX prog (mBuild 43 #[]) w (pk K) fun t41 w=>
 DoX prog (mStore 43 t4 t41) w (pk K) fun _ w=>
 RetX prog [.cell t4 43,.val (.int .i64 3)] w K) (DoX prog (mIA 85 t6 t27) w (pk K) fun t44 w=>
 DoX prog (mStore 2 t44 t37) w (pk K) fun _ w=>
 DoX prog (mBin .add 3 t27 (.int .i64 1)) w (pk K) fun t45 w=>
 N1 [t5,t45] w)) (DoX prog (mIA 85 t6 (.int .i64 0)) w (pk K) fun t46 w=>
 DoX prog (mLoad 2 t46) w (pk K) fun t47 w=>
 DoX prog (mIA 85 t6 (.int .i64 2)) w (pk K) fun t48 w=>
 DoX prog (mLoad 2 t48) w (pk K) fun t49 w=>
 DoX prog (mB .min #[2,2] 2 #[false,false] #[t47,t49]) w (pk K) fun t50 w=>
 DoX prog (mIA 85 t6 (.int .i64 1)) w (pk K) fun t51 w=>
 DoX prog (mLoad 2 t51) w (pk K) fun t52 w=>
 DoX prog (mIA 85 t6 (.int .i64 3)) w (pk K) fun t53 w=>
 DoX prog (mLoad 2 t53) w (pk K) fun t54 w=>
 DoX prog (mB .min #[2,2] 2 #[false,false] #[t52,t54]) w (pk K) fun t55 w=>
 DoX prog (mIA 85 t6 (.int .i64 0)) w (pk K) fun t56 w=>
 DoX prog (mLoad 2 t56) w (pk K) fun t57 w=>
 DoX prog (mIA 85 t6 (.int .i64 2)) w (pk K) fun t58 w=>
 DoX prog (mLoad 2 t58) w (pk K) fun t59 w=>
 DoX prog (mB .max #[2,2] 2 #[false,false] #[t57,t59]) w (pk K) fun t60 w=>
 DoX prog (mIA 85 t6 (.int .i64 1)) w (pk K) fun t61 w=>
 DoX prog (mLoad 2 t61) w (pk K) fun t62 w=>
 DoX prog (mIA 85 t6 (.int .i64 3)) w (pk K) fun t63 w=>
 DoX prog (mLoad 2 t63) w (pk K) fun t64 w=>
 DoX prog (mB .max #[2,2] 2 #[false,false] #[t62,t64]) w (pk K) fun t65 w=>
 DoX prog (mBuild 43 #[(0,t50),(1,t55),(2,t60),(3,t65)]) w (pk K) fun t66 w=>
 DoX prog (mStore 43 t4 t66) w (pk K) fun _ w=>
 RetX prog [.cell t4 43,.val (.int .i64 0)] w K)
def S_pages_Rect (t0 t1:Value)(w:World)(K:Ending→World→Prop):Prop:=
 DoX prog (mBox 28 t0) w (pk K) fun t2 w=>
 DoX prog (mBox 26 t1) w (pk K) fun t3 w=>
 DoX prog (mAlloc 43) w (pk K) fun t4 w=>
 DoX prog (mLoad 28 t2) w (pk K) fun t11 w=>
 DoX prog (mLoad 26 t3) w (pk K) fun t12 w=>
 CallX prog 39 #[t11,t12] w (pk K) fun t13 w=>
 DoX prog (mStore 26 t3 t13) w (pk K) fun _ w=>
 DoX prog (mFA 26 t3 0) w (pk K) fun t14 w=>
 DoX prog (mLoad 3 t14) w (pk K) fun t15 w=>
 DoX prog (mEq .neq 3 (.tmp 15) (.const (.int .i64 6)) t15 (.int .i64 6)) w (pk K) fun t16 w=>
 GDo t16 false (fun E=>DoX prog (mFA 26 t3 5) w (pk K) E) w fun t18 w=>
 GDo t16 false (fun E=>DoX prog (mLoad 24 t18) w (pk K) E) w fun t19 w=>
 GDo t16 false (fun E=>DoX prog (mB .len #[24] 3 #[false] #[t19]) w (pk K) E) w fun t20 w=>
 GDo t16 false (fun E=>DoX prog (mEq .neq 3 (.tmp 20) (.const (.int .i64 4)) t20 (.int .i64 4)) w (pk K) E) w fun t21 w=>
 DoX prog (mPick t16 (.bool true) t21) w (pk K) fun t22 w=>
 IfX t22 (DoX prog (mBuild 43 #[]) w (pk K) fun t23 w=>
 DoX prog (mStore 43 t4 t23) w (pk K) fun _ w=>
 RetX prog [.cell t4 43,.val (.int .i64 3)] w K) (DoX prog (mAlloc 85) w (pk K) fun t6 w=>
 DoX prog (mFA 26 t3 5) w (pk K) fun t24 w=>
 DoX prog (mLoad 24 t24) w (pk K) fun t25 w=>
 DoX prog (mB .len #[24] 3 #[false] #[t25]) w (pk K) fun t26 w=>
 LoopX [(.int .i64 0),(.int .i64 0)] w (fun vs1 w N1=>∀_:Sg,S_pages_Rect_0 t2 t4 (vs1.getD 0 undef) t6 t25 t26 (vs1.getD 1 undef) w N1 K))
theorem S_pages_Rect_eq (t0 t1:Value)(w:World)(K:Ending→World→Prop):wpX prog 67 [] [(6,[5,27])] none (bodyOf Tryz.f18) (topQ prog [.cell 4 43,.tmp 5] K) (startX [t0,t1]) [] w=S_pages_Rect t0 t1 w K:=by kernel_rfl
theorem S_pages_Rect_ok {t0 t1:Value}{w:World}{K:Ending→World→Prop}(h:S_pages_Rect t0 t1 w K):Calls prog 18 #[t0,t1] w K:=
 calls_of_wpX Tryz.func18 rfl rfl rfl rfl (Eq.mpr (S_pages_Rect_eq t0 t1 w K) h)
def S_pages_Content_5 (t16 t19 t80:Value)(w:World)(N5:List Value→World→Prop)(K:Ending→World→Prop):Prop:=
 CallX prog 61 #[t16,t19] w (pk K) fun t97 w=>
 CallX prog 62 #[t16] w (pk K) fun t98 w=>
 DoX prog (mBin .gtr 3 t98 (.int .i64 1048576)) w (pk K) fun t99 w=>
 IfX t99 (K (.returned (.tuple #[(.string ⟨#[]⟩),(.int .i64 5)])) w) (DoX prog (mBin .add 3 t80 (.int .i64 1)) w (pk K) fun t100 w=>
 N5 [t100] w)
def S_pages_Content_4 (t16 t78 t79 t80:Value)(w:World)(N5:List Value→World→Prop)(K:Ending→World→Prop):Prop:=
 DoX prog (mBin .lss 3 t80 t79) w (pk K) fun t81 w=>
 IfX t81 (DoX prog (mIA 24 t78 t80) w (pk K) fun t83 w=>
 DoX prog (mLoad 26 t83) w (pk K) fun t84 w=>
 DoX prog (mAlloc 26) w (pk K) fun t18 w=>
 DoX prog (mStore 26 t18 t84) w (pk K) fun _ w=>
 DoX prog (mLoad 26 t18) w (pk K) fun t86 w=>
 CallX prog 59 #[t86] w (pk K) fun t87 w=>
 DoX prog (mExt t87 0) w (pk K) fun t88 w=>
 DoX prog (mExt t87 1) w (pk K) fun t89 w=>
 DoX prog (mEq .neq 32 (.tmp 90) (.const (.int .i64 0)) t89 (.int .i64 0)) w (pk K) fun t91 w=>
 IfX t91 (K (.returned (.tuple #[(.string ⟨#[]⟩),t89])) w) (JoinX (fun J6=>
 DoX prog (mBin .gtr 3 t80 (.int .i64 0)) w (pk K) fun t94 w=>
 IfX t94 (CallX prog 60 #[t16,(.int .u8 10)] w (pk K) fun t95 w=>
 J6 [] w) (J6 [] w)) (fun vs6 w=>∀_:Sg,S_pages_Content_5 t16 t88 t80 w N5 K))) (CallX prog 63 #[t16] w (pk K) fun t101 w=>
 K (.returned (.tuple #[t101,(.int .i64 0)])) w)
def S_pages_Content_3 (t11 t68 t69 t70:Value)(w:World)(N4:List Value→World→Prop)(K:Ending→World→Prop):Prop:=
 DoX prog (mBin .lss 3 t70 t69) w (pk K) fun t71 w=>
 IfX t71 (DoX prog (mIA 24 t68 t70) w (pk K) fun t72 w=>
 DoX prog (mLoad 26 t72) w (pk K) fun t73 w=>
 DoX prog (mAlloc 26) w (pk K) fun t15 w=>
 DoX prog (mStore 26 t15 t73) w (pk K) fun _ w=>
 DoX prog (mFA 26 t15 0) w (pk K) fun t74 w=>
 DoX prog (mLoad 3 t74) w (pk K) fun t75 w=>
 DoX prog (mEq .neq 3 (.tmp 75) (.const (.int .i64 9)) t75 (.int .i64 9)) w (pk K) fun t76 w=>
 IfX t76 (K (.returned (.tuple #[(.string ⟨#[]⟩),(.int .i64 24)])) w) (DoX prog (mBin .add 3 t70 (.int .i64 1)) w (pk K) fun t77 w=>
 N4 [t77] w)) (DoX prog (mAlloc 104) w (pk K) fun t16 w=>
 DoX prog (mB .len #[24] 3 #[false] #[t11]) w (pk K) fun t79 w=>
 LoopX [(.int .i64 0)] w (fun vs5 w N5=>∀_:Sg,S_pages_Content_4 t16 t11 t79 (vs5.getD 0 undef) w N5 K))
def S_pages_Content_2 (t11:Value)(w:World)(K:Ending→World→Prop):Prop:=
 DoX prog (mB .len #[24] 3 #[false] #[t11]) w (pk K) fun t69 w=>
 LoopX [(.int .i64 0)] w (fun vs4 w N4=>∀_:Sg,S_pages_Content_3 t11 t11 t69 (vs4.getD 0 undef) w N4 K)
def S_pages_Content_1 (t2 t11 t55 t56 t57:Value)(w:World)(J2 N3:List Value→World→Prop)(K:Ending→World→Prop):Prop:=
 DoX prog (mBin .lss 3 t57 t56) w (pk K) fun t58 w=>
 IfX t58 (DoX prog (mIA 24 t55 t57) w (pk K) fun t59 w=>
 DoX prog (mLoad 26 t59) w (pk K) fun t60 w=>
 DoX prog (mAlloc 26) w (pk K) fun t13 w=>
 DoX prog (mStore 26 t13 t60) w (pk K) fun _ w=>
 DoX prog (mLoad 28 t2) w (pk K) fun t62 w=>
 DoX prog (mLoad 26 t13) w (pk K) fun t63 w=>
 CallX prog 39 #[t62,t63] w (pk K) fun t64 w=>
 DoX prog (mBuildS 24 1 #[(0,t64)]) w (pk K) fun t65 w=>
 DoX prog (mB .append #[24,24] 24 #[false,false] #[t11,t65]) w (pk K) fun t66 w=>
 DoX prog (mBin .add 3 t57 (.int .i64 1)) w (pk K) fun t67 w=>
 N3 [t66,t67] w) (J2 [t11] w)
def S_pages_Content_0 (t2 t10:Value)(w:World)(K:Ending→World→Prop):Prop:=
 DoX prog (mLoad 26 t10) w (pk K) fun t46 w=>
 DoX prog (mBuildS 24 1 #[(0,t46)]) w (pk K) fun t47 w=>
 JoinX (fun J2=>
 DoX prog (mFA 26 t10 0) w (pk K) fun t48 w=>
 DoX prog (mLoad 3 t48) w (pk K) fun t49 w=>
 DoX prog (mEq .eql 3 (.tmp 49) (.const (.int .i64 0)) t49 (.int .i64 0)) w (pk K) fun t51 w=>
 IfX t51 (K (.returned (.tuple #[(.string ⟨#[]⟩),(.int .i64 0)])) w) (DoX prog (mEq .eql 3 (.tmp 49) (.const (.int .i64 6)) t49 (.int .i64 6)) w (pk K) fun t53 w=>
 IfX t53 (DoX prog (mFA 26 t10 5) w (pk K) fun t54 w=>
 DoX prog (mLoad 24 t54) w (pk K) fun t55 w=>
 DoX prog (mB .len #[24] 3 #[false] #[t55]) w (pk K) fun t56 w=>
 LoopX [(.slice none 0 0),(.int .i64 0)] w (fun vs3 w N3=>∀_:Sg,S_pages_Content_1 t2 (vs3.getD 0 undef) t55 t56 (vs3.getD 1 undef) w J2 N3 K)) (J2 [t47] w))) (fun vs2 w=>∀_:Sg,S_pages_Content_2 (vs2.getD 0 undef) w K)
def S_pages_Content (t0 t1:Value)(w:World)(K:Ending→World→Prop):Prop:=
 DoX prog (mBox 28 t0) w (pk K) fun t2 w=>
 DoX prog (mLoad 28 t2) w (pk K) fun t22 w=>
 CallX prog 20 #[t22,t1] w (pk K) fun t24 w=>
 DoX prog (mExt t24 0) w (pk K) fun t25 w=>
 DoX prog (mExt t24 1) w (pk K) fun t26 w=>
 DoX prog (mAlloc 48) w (pk K) fun t6 w=>
 DoX prog (mStore 48 t6 t25) w (pk K) fun _ w=>
 DoX prog (mEq .neq 32 (.tmp 27) (.const (.int .i64 0)) t26 (.int .i64 0)) w (pk K) fun t28 w=>
 IfX t28 (K (.returned (.tuple #[(.string ⟨#[]⟩),t26])) w) (DoX prog (mLoad 28 t2) w (pk K) fun t31 w=>
 CallX prog 43 #[t31,t1] w (pk K) fun t33 w=>
 DoX prog (mExt t33 0) w (pk K) fun t34 w=>
 DoX prog (mExt t33 1) w (pk K) fun t35 w=>
 DoX prog (mAlloc 76) w (pk K) fun t8 w=>
 DoX prog (mStore 76 t8 t34) w (pk K) fun _ w=>
 DoX prog (mEq .neq 32 (.tmp 36) (.const (.int .i64 0)) t35 (.int .i64 0)) w (pk K) fun t37 w=>
 IfX t37 (K (.returned (.tuple #[(.string ⟨#[]⟩),t35])) w) (HeldX w (fun S1 w=>
 HDo prog S1 (mLoad 28 t2) fun t39=>
 HDo prog (fun _=>True) (mFA 76 t8 1) fun t40=>
 HDo prog S1 (mLoad 24 t40) fun t41=>
 HDo prog (fun _=>True) (mIA 24 t41 (.int .i64 0)) fun t42=>
 HDo prog S1 (mLoad 26 t42) fun t43=>
 (DoX prog (mBuildS 23 1 #[(0,(.string ⟨#[67,111,110,116,101,110,116,115]⟩))]) w (pm1 (pm1 (pm1 (pm1 (pm1 (pk K)))))) fun t44 w=>
 S1 w∧((CallX prog 58 #[t39,t43,t44] w (pm1 (pm1 (pm1 (pm1 (pm1 (pk K)))))) fun t45 w=>
 S1 w∧(DoX prog (mAlloc 26) w (pm1 (pm1 (pm1 (pm1 (pm1 (pk K)))))) fun t10 w=>
 S1 w∧(DoX prog (mStore 26 t10 t45) w (pm1 (pm1 (pm1 (pm1 (pm1 (pk K)))))) fun _ w=>
 (S_pages_Content_0 t2 t10 w K))))∧(DoX prog (mAlloc 26) w (pm1 (pm1 (pm1 (pm1 (pm1 (pk K)))))) fun t10_1 w=>
 S1 w∧(CallX prog 58 #[t39,t43,t44] w (pm1 (pm1 (pm1 (pm1 (pm1 (pk K)))))) fun t45_1 w=>
 S1 w∧(DoX prog (mStore 26 t10_1 t45_1) w (pm1 (pm1 (pm1 (pm1 (pm1 (pk K)))))) fun _ w=>
 (S_pages_Content_0 t2 t10_1 w K))))))∧(DoX prog (mAlloc 26) w (pm1 (pm1 (pm1 (pm1 (pm1 (pk K)))))) fun t10_2 w=>
 S1 w∧(DoX prog (mBuildS 23 1 #[(0,(.string ⟨#[67,111,110,116,101,110,116,115]⟩))]) w (pm1 (pm1 (pm1 (pm1 (pm1 (pk K)))))) fun t44_1 w=>
 S1 w∧(CallX prog 58 #[t39,t43,t44_1] w (pm1 (pm1 (pm1 (pm1 (pm1 (pk K)))))) fun t45_2 w=>
 S1 w∧(DoX prog (mStore 26 t10_2 t45_2) w (pm1 (pm1 (pm1 (pm1 (pm1 (pk K)))))) fun _ w=>
 (S_pages_Content_0 t2 t10_2 w K))))))))
theorem S_pages_Content_eq (t0 t1:Value)(w:World)(K:Ending→World→Prop):wpX prog 102 [(19,[11]),(34,[])] [(15,[11,57]),(20,[70]),(27,[80])] none (bodyOf Tryz.f32) (topQ prog [.tmp 4,.tmp 5] K) (startX [t0,t1]) [] w=S_pages_Content t0 t1 w K:=by kernel_rfl
theorem S_pages_Content_ok {t0 t1:Value}{w:World}{K:Ending→World→Prop}(h:S_pages_Content t0 t1 w K):Calls prog 32 #[t0,t1] w K:=
 calls_of_wpX Tryz.func32 rfl rfl rfl rfl (Eq.mpr (S_pages_Content_eq t0 t1 w K) h)
end
section
open Eng
def S_value_Number_0 (t4:Value)(w:World)(K:Ending→World→Prop):Prop:=
 CallX prog 75 #[t4,(.int .i64 (-1073741824)),(.int .i64 1073741824)] w (pk K) fun t19 w=>
 DoX prog (mUn .not t19) w (pk K) fun t20 w=>
 IfX t20 (K (.returned (.tuple #[(.int .i64 0),(.bool false)])) w) (K (.returned (.tuple #[t4,(.bool true)])) w)
def S_value_Number (t0:Value)(w:World)(K:Ending→World→Prop):Prop:=
 DoX prog (mBox 26 t0) w (pk K) fun t1 w=>
 DoX prog (mFA 26 t1 1) w (pk K) fun t5 w=>
 DoX prog (mLoad 2 t5) w (pk K) fun t6 w=>
 JoinX (fun J1=>
 DoX prog (mFA 26 t1 0) w (pk K) fun t7 w=>
 DoX prog (mLoad 3 t7) w (pk K) fun t8 w=>
 DoX prog (mEq .eql 3 (.tmp 8) (.const (.int .i64 2)) t8 (.int .i64 2)) w (pk K) fun t10 w=>
 IfX t10 (CallX prog 75 #[t6,(.int .i64 (-107374)),(.int .i64 107374)] w (pk K) fun t12 w=>
 DoX prog (mUn .not t12) w (pk K) fun t13 w=>
 IfX t13 (K (.returned (.tuple #[(.int .i64 0),(.bool false)])) w) (DoX prog (mBin .mul 2 t6 (.int .i64 10000)) w (pk K) fun t15 w=>
 J1 [t15] w)) (DoX prog (mEq .eql 3 (.tmp 8) (.const (.int .i64 3)) t8 (.int .i64 3)) w (pk K) fun t17 w=>
 IfX t17 (J1 [t6] w) (K (.returned (.tuple #[(.int .i64 0),(.bool false)])) w))) (fun vs1 w=>∀_:Sg,S_value_Number_0 (vs1.getD 0 undef) w K)
theorem S_value_Number_eq (t0:Value)(w:World)(K:Ending→World→Prop):wpX prog 22 [(9,[4])] [] none (bodyOf Tryz.f40) (topQ prog [.tmp 2,.tmp 3] K) (startX [t0]) [] w=S_value_Number t0 w K:=by kernel_rfl
theorem S_value_Number_ok {t0:Value}{w:World}{K:Ending→World→Prop}(h:S_value_Number t0 w K):Calls prog 40 #[t0] w K:=
 calls_of_wpX Tryz.func40 rfl rfl rfl rfl (Eq.mpr (S_value_Number_eq t0 w K) h)
end
section
open Eng Go.RowKit
theorem m_max64 {P:Program}{w:World}{PK:PKT}{K:VWP}{T1 T2 U:TypeId}{cb:Array Bool}{k k':IntKind}{a b:Int}:DoX P (mB .max #[T1,T2] U cb #[.int k a,.int k' b]) w PK K=K (.int k (max a b)) w:=by
 refine do_eq ?_;have e:(if a < b then b else a)=max a b:=by split<;>omega
 simp[mB,builtin,Builtin.max_,Builtin.max2,e]
def rcC (r:Rc):List Value:=[.int .i64 r.x0,.int .i64 r.y0,.int .i64 r.x1,.int .i64 r.y1]
def rcV (r:Rc):Value:=.agg (rcC r).toArray
def rcE (b:Nat)(r:Rc):Ent:=.cells b (rcC r) 43
theorem rcC_one (r:Rc):∀v∈rcC r,v.oneCell'=true:=by
 intro v hv;simp only[rcC,List.mem_cons,List.not_mem_nil,or_false] at hv;rcases hv with rfl|rfl|rfl|rfl<;>rfl
theorem aggRc:aggN prog 43=some 4:=by kernel_rfl
theorem szRc:(Tryz.prog.info? 43).map (·.size)=some 4:=by kernel_rfl
theorem nI64p:notAgg prog 2=true:=by kernel_rfl
theorem fo_rc0:fOff prog 43 0=some 0:=by kernel_rfl
theorem fo_rc1:fOff prog 43 1=some 1:=by kernel_rfl
theorem fo_rc2:fOff prog 43 2=some 2:=by kernel_rfl
theorem fo_rc3:fOff prog 43 3=some 3:=by kernel_rfl
def Chn (A:Nat→Prop)(w:World)(v:Value)(l:List Ob):Prop:=∃cs,SlA A w v 6 l.length cs∧OVs A w cs l
def lfC (x:Lf)(v:Value):List Value:=[.int .i64 x.num,v]
def lfV (x:Lf)(v:Value):Value:=.agg (lfC x v).toArray
def lfE (b:Nat)(x:Lf)(v:Value):Ent:=.cells b (lfC x v) 76
def lfR (A:Nat→Prop)(w:World)(a:List Value)(x:Lf):Prop:=∃v,a=lfC x v∧Chn A w v x.chain
abbrev LVs (A:Nat→Prop)(w:World)(cs:List Value)(l:List Lf):Prop:=Rws (lfR A w) cs l
theorem Chn.le {M N:Mem}(h:M.le N){v:Value}{l:List Ob}(hc:Chn M.A M.w v l):Chn N.A N.w v l:=by
 obtain⟨cs,h1,h2⟩:=hc;exact⟨cs,h1.le h,h2.le h⟩
theorem Chn.nil (A:Nat→Prop)(w:World):Chn A w nilS []:=⟨[],SlA.nil _ _ _ _,.nil⟩
theorem Chn.one {A:Nat→Prop}{w:World}{v:Value}{l:List Ob}(h:Chn A w v l):v.oneCell'=true:=by
 obtain⟨cs,h1,_⟩:=h;exact h1.one
theorem lfR.le {M N:Mem}(h:M.le N){a:List Value}{x:Lf}(hx:lfR M.A M.w a x):lfR N.A N.w a x:=by
 obtain⟨v,rfl,hc⟩:=hx;exact⟨v,rfl,hc.le h⟩
theorem LVs.le {M N:Mem}(h:M.le N){cs:List Value}{l:List Lf}(hl:LVs M.A M.w cs l):LVs N.A N.w cs l:=Rws.mono (fun _ _=>lfR.le h) hl
theorem lfR_len {A:Nat→Prop}{w:World}:∀a x,lfR A w a x→a.length=2:=by
 rintro a x ⟨v,rfl,_⟩;rfl
theorem lfC_one (x:Lf){v:Value}(h:v.oneCell'=true):∀u∈lfC x v,u.oneCell'=true:=by
 intro u hu;simp only[lfC,List.mem_cons,List.not_mem_nil,or_false] at hu;rcases hu with rfl|rfl
 ·rfl
 ·exact h
theorem aggLf:aggN prog 76=some 2:=by kernel_rfl
theorem szLf:(Tryz.prog.info? 76).map (·.size)=some 2:=by kernel_rfl
theorem nSlLf:notAgg prog 72=true:=by kernel_rfl
theorem elLf:elB prog 76 2 32=true:=by kernel_rfl
theorem nSlObP:notAgg prog 24=true:=by kernel_rfl
theorem fo_lf0:fOff prog 76 0=some 0:=by kernel_rfl
theorem fo_lf1:fOff prog 76 1=some 1:=by kernel_rfl
def pgC (p:Pge)(vk vc:Value):List Value:=.int .i64 p.num::(rcC p.media++(rcC p.crop++.int .i64 p.rotate::obC p.res vk vc))
def pgV (p:Pge)(vk vc:Value):Value:=.agg (pgC p vk vc).toArray
def pgE (b:Nat)(p:Pge)(vk vc:Value):Ent:=.cells b (pgC p vk vc) 48
def PV (A:Nat→Prop)(w:World)(v:Value)(p:Pge):Prop:=∃vk vc,v=pgV p vk vc∧OV A w (obV p.res vk vc) p.res
def pgR (A:Nat→Prop)(w:World)(a:List Value)(p:Pge):Prop:=∃vk vc,a=pgC p vk vc∧OV A w (obV p.res vk vc) p.res
abbrev PgVs (A:Nat→Prop)(w:World)(cs:List Value)(l:List Pge):Prop:=Rws (pgR A w) cs l
theorem pgR.le {M N:Mem}(h:M.le N){a:List Value}{p:Pge}(hp:pgR M.A M.w a p):pgR N.A N.w a p:=by
 obtain⟨vk,vc,rfl,ho⟩:=hp;exact⟨vk,vc,rfl,ho.le h⟩
theorem PgVs.le {M N:Mem}(h:M.le N){cs:List Value}{l:List Pge}(hl:PgVs M.A M.w cs l):PgVs N.A N.w cs l:=Rws.mono (fun _ _=>pgR.le h) hl
theorem pgR_len {A:Nat→Prop}{w:World}:∀a p,pgR A w a p→a.length=16:=by
 rintro a p ⟨vk,vc,rfl,_⟩;rfl
theorem pgC_one (p:Pge){vk vc:Value}(hk:vk.oneCell'=true)(hc:vc.oneCell'=true):∀v∈pgC p vk vc,v.oneCell'=true:=by
 intro v hv;rcases List.mem_cons.1 hv with rfl|hv
 ·rfl
 rcases List.mem_append.1 hv with hv|hv
 ·exact rcC_one _ v hv
 rcases List.mem_append.1 hv with hv|hv
 ·exact rcC_one _ v hv
 rcases List.mem_cons.1 hv with rfl|hv
 ·rfl
 ·exact obC_one p.res hk hc v hv
theorem aggPg:aggN prog 48=some 16:=by kernel_rfl
theorem szPg:(Tryz.prog.info? 48).map (·.size)=some 16:=by kernel_rfl
theorem elPg:elB prog 48 16 168=true:=by kernel_rfl
theorem fo_pg0:fOff prog 48 0=some 0:=by kernel_rfl
theorem fo_pg1:fOff prog 48 1=some 1:=by kernel_rfl
theorem fo_pg2:fOff prog 48 2=some 5:=by kernel_rfl
theorem fo_pg3:fOff prog 48 3=some 9:=by kernel_rfl
theorem fo_pg4:fOff prog 48 4=some 10:=by kernel_rfl
def trC (d:Dc)(vi vk vc:Value)(mb:Nat)(n e:Int):List Value:=dcC d vi vk vc++[.map (some mb),.int .i64 n,.int .i64 e]
def trvV (d:Dc)(vi vk vc:Value)(mb:Nat)(n e:Int):Value:=.agg (trC d vi vk vc mb n e).toArray
def trE35 (b:Nat)(d:Dc)(vi vk vc:Value)(mb:Nat)(n e:Int):Ent:=.cells b (trC d vi vk vc mb n e) 116
theorem fo_pt0:fOff prog 116 0=some 0:=by kernel_rfl
theorem fo_pt1:fOff prog 116 1=some 7:=by kernel_rfl
theorem fo_pt2:fOff prog 116 2=some 8:=by kernel_rfl
theorem fo_pt3:fOff prog 116 3=some 9:=by kernel_rfl
theorem nMapIB:notAgg prog 114=true:=by kernel_rfl
theorem nPtrTr:notAgg prog 113=true:=by kernel_rfl
section
variable {w:World}{PK:PKT}{K:VWP}{S:Nat→Prop}{w0:World}{L:List Ent}
theorem fa_rc0 {b off:Nat}:DoX prog (mFA 43 (.pointer (some ⟨b,off,none⟩)) 0) w PK K=K (.pointer (some ⟨b,off,none⟩)) w:=f_addr fo_rc0
theorem fa_rc1 {b off:Nat}:DoX prog (mFA 43 (.pointer (some ⟨b,off,none⟩)) 1) w PK K=K (.pointer (some ⟨b,off+1,none⟩)) w:=f_addr fo_rc1
theorem fa_rc2 {b off:Nat}:DoX prog (mFA 43 (.pointer (some ⟨b,off,none⟩)) 2) w PK K=K (.pointer (some ⟨b,off+2,none⟩)) w:=f_addr fo_rc2
theorem fa_rc3 {b off:Nat}:DoX prog (mFA 43 (.pointer (some ⟨b,off,none⟩)) 3) w PK K=K (.pointer (some ⟨b,off+3,none⟩)) w:=f_addr fo_rc3
theorem fa_lf0 {b off:Nat}:DoX prog (mFA 76 (.pointer (some ⟨b,off,none⟩)) 0) w PK K=K (.pointer (some ⟨b,off,none⟩)) w:=f_addr fo_lf0
theorem fa_lf1 {b off:Nat}:DoX prog (mFA 76 (.pointer (some ⟨b,off,none⟩)) 1) w PK K=K (.pointer (some ⟨b,off+1,none⟩)) w:=f_addr fo_lf1
theorem fa_pg0 {b off:Nat}:DoX prog (mFA 48 (.pointer (some ⟨b,off,none⟩)) 0) w PK K=K (.pointer (some ⟨b,off,none⟩)) w:=f_addr fo_pg0
theorem fa_pg1 {b off:Nat}:DoX prog (mFA 48 (.pointer (some ⟨b,off,none⟩)) 1) w PK K=K (.pointer (some ⟨b,off+1,none⟩)) w:=f_addr fo_pg1
theorem fa_pg2 {b off:Nat}:DoX prog (mFA 48 (.pointer (some ⟨b,off,none⟩)) 2) w PK K=K (.pointer (some ⟨b,off+5,none⟩)) w:=f_addr fo_pg2
theorem fa_pg3 {b off:Nat}:DoX prog (mFA 48 (.pointer (some ⟨b,off,none⟩)) 3) w PK K=K (.pointer (some ⟨b,off+9,none⟩)) w:=f_addr fo_pg3
theorem fa_pg4 {b off:Nat}:DoX prog (mFA 48 (.pointer (some ⟨b,off,none⟩)) 4) w PK K=K (.pointer (some ⟨b,off+10,none⟩)) w:=f_addr fo_pg4
theorem fa_pt0 {b off:Nat}:DoX prog (mFA 116 (.pointer (some ⟨b,off,none⟩)) 0) w PK K=K (.pointer (some ⟨b,off,none⟩)) w:=f_addr fo_pt0
theorem fa_pt1 {b off:Nat}:DoX prog (mFA 116 (.pointer (some ⟨b,off,none⟩)) 1) w PK K=K (.pointer (some ⟨b,off+7,none⟩)) w:=f_addr fo_pt1
theorem fa_pt2 {b off:Nat}:DoX prog (mFA 116 (.pointer (some ⟨b,off,none⟩)) 2) w PK K=K (.pointer (some ⟨b,off+8,none⟩)) w:=f_addr fo_pt2
theorem fa_pt3 {b off:Nat}:DoX prog (mFA 116 (.pointer (some ⟨b,off,none⟩)) 3) w PK K=K (.pointer (some ⟨b,off+9,none⟩)) w:=f_addr fo_pt3
theorem m_nilP {b off:Nat}:DoX prog (mNil (.pointer (some ⟨b,off,none⟩))) w PK K=K (.pointer (some ⟨b,off,none⟩)) w:=do_eq rfl
theorem o_rcb (r:Rc)(ho:OwnS S w0 w L)(k:∀b w',OwnS S w0 w' (rcE b r::L)→K (.pointer (some ⟨b,0,none⟩)) w'):DoX prog (mBox 43 (rcV r)) w PK K:=
 o_new (fun b=>.pointer (some ⟨b,0,none⟩)) (rcC r) 43 (fun _=>by kernel_rfl) ho k
theorem o_rca (ho:OwnS S w0 w L)(k:∀b w',OwnS S w0 w' (rcE b Pg.rc0::L)→K (.pointer (some ⟨b,0,none⟩)) w'):DoX prog (mAlloc 43) w PK K:=
 o_new (fun b=>.pointer (some ⟨b,0,none⟩)) (rcC Pg.rc0) 43 (fun _=>by kernel_rfl) ho k
theorem rc_put (j:Nat){b:Nat}{r r':Rc}(ho:OwnS S w0 w L)(hi:L[j]?=some (rcE b r))(k:∀w',OwnS S w0 w' (L.set j (rcE b r'))→K undef w') :
  DoX prog (mStore 43 (.pointer (some ⟨b,0,none⟩)) (rcV r')) w PK K:=o_put j ho hi (new:=rcC r') szRc (rcC_one r') rfl k
theorem rc_v (ho:OwnS S w0 w L)(j:Nat){b:Nat}{r:Rc}(hi:L[j]?=some (rcE b r)):DoX prog (mLoad 43 (.pointer (some ⟨b,0,none⟩))) w PK K=K (rcV r) w:=l_at (ho.agg j hi aggRc)
theorem rc_0 (ho:OwnS S w0 w L)(j:Nat){b:Nat}{r:Rc}(hi:L[j]?=some (rcE b r)):DoX prog (mLoad 2 (.pointer (some ⟨b,0,none⟩))) w PK K=K (.int .i64 r.x0) w:=l_cell nI64p (ho.cell j hi 0 rfl)
theorem rc_1 (ho:OwnS S w0 w L)(j:Nat){b:Nat}{r:Rc}(hi:L[j]?=some (rcE b r)):DoX prog (mLoad 2 (.pointer (some ⟨b,0+1,none⟩))) w PK K=K (.int .i64 r.y0) w:=l_cell nI64p (ho.cell j hi 1 rfl)
theorem rc_2 (ho:OwnS S w0 w L)(j:Nat){b:Nat}{r:Rc}(hi:L[j]?=some (rcE b r)):DoX prog (mLoad 2 (.pointer (some ⟨b,0+2,none⟩))) w PK K=K (.int .i64 r.x1) w:=l_cell nI64p (ho.cell j hi 2 rfl)
theorem rc_3 (ho:OwnS S w0 w L)(j:Nat){b:Nat}{r:Rc}(hi:L[j]?=some (rcE b r)):DoX prog (mLoad 2 (.pointer (some ⟨b,0+3,none⟩))) w PK K=K (.int .i64 r.y1) w:=l_cell nI64p (ho.cell j hi 3 rfl)
theorem m_rc {a b c e:Int}:DoX prog (mBuild 43 #[(0,.int .i64 a),(1,.int .i64 b),(2,.int .i64 c),(3,.int .i64 e)]) w PK K=K (rcV ⟨a,b,c,e⟩) w:=do_eq (by kernel_rfl)
theorem m_rc0:DoX prog (mBuild 43 #[]) w PK K=K (rcV Pg.rc0) w:=do_eq (by kernel_rfl)
theorem o_lfb (x:Lf){v:Value}(h:v.oneCell'=true)(ho:OwnS S w0 w L)(k:∀b w',OwnS S w0 w' (lfE b x v::L)→K (.pointer (some ⟨b,0,none⟩)) w'):DoX prog (mBox 76 (lfV x v)) w PK K:=by
 cases v<;>first|(cases h;done)|exact o_new (fun b=>.pointer (some ⟨b,0,none⟩)) (lfC x _) 76 (fun _=>by kernel_rfl) ho k
theorem o_lfa (ho:OwnS S w0 w L)(k:∀b w',OwnS S w0 w' (lfE b Pg.lf0 nilS::L)→K (.pointer (some ⟨b,0,none⟩)) w'):DoX prog (mAlloc 76) w PK K:=
 o_new (fun b=>.pointer (some ⟨b,0,none⟩)) (lfC Pg.lf0 nilS) 76 (fun _=>by kernel_rfl) ho k
theorem lf_put (j:Nat){b:Nat}{x x':Lf}{v v':Value}(h:v'.oneCell'=true)(ho:OwnS S w0 w L)(hi:L[j]?=some (lfE b x v))(k:∀w',OwnS S w0 w' (L.set j (lfE b x' v'))→K undef w') :
  DoX prog (mStore 76 (.pointer (some ⟨b,0,none⟩)) (lfV x' v')) w PK K:=o_put j ho hi (new:=lfC x' v') szLf (lfC_one x' h) rfl k
theorem lf_v (ho:OwnS S w0 w L)(j:Nat){b:Nat}{x:Lf}{v:Value}(hi:L[j]?=some (lfE b x v)):DoX prog (mLoad 76 (.pointer (some ⟨b,0,none⟩))) w PK K=K (lfV x v) w:=l_at (ho.agg j hi aggLf)
theorem lf_num (ho:OwnS S w0 w L)(j:Nat){b:Nat}{x:Lf}{v:Value}(hi:L[j]?=some (lfE b x v)):DoX prog (mLoad 3 (.pointer (some ⟨b,0,none⟩))) w PK K=K (.int .i64 x.num) w:=l_cell nInt5 (ho.cell j hi 0 rfl)
theorem lf_ch (ho:OwnS S w0 w L)(j:Nat){b:Nat}{x:Lf}{v:Value}(hi:L[j]?=some (lfE b x v)):DoX prog (mLoad 24 (.pointer (some ⟨b,0+1,none⟩))) w PK K=K v w:=l_cell nSlObP (ho.cell j hi 1 rfl)
theorem m_lf0:DoX prog (mBuild 76 #[]) w PK K=K (lfV Pg.lf0 nilS) w:=do_eq (by kernel_rfl)
theorem m_lf {n:Int}{v:Value}(h:v.oneCell'=true)(ch:List Ob):DoX prog (mBuild 76 #[(0,.int .i64 n),(1,v)]) w PK K=K (lfV ⟨n,ch⟩ v) w:=by
 cases v<;>first|(cases h;done)|exact do_eq (by kernel_rfl)
theorem o_pgb (p:Pge){vk vc:Value}(hk:vk.oneCell'=true)(hc:vc.oneCell'=true)(ho:OwnS S w0 w L)(k:∀b w',OwnS S w0 w' (pgE b p vk vc::L)→K (.pointer (some ⟨b,0,none⟩)) w'):DoX prog (mBox 48 (pgV p vk vc)) w PK K:=by
 cases vk<;>first|(cases hk;done)|skip
 all_goals cases vc<;>first|(cases hc;done)|exact o_new (fun b=>.pointer (some ⟨b,0,none⟩)) (pgC p _ _) 48 (fun _=>by kernel_rfl) ho k
theorem o_pga (ho:OwnS S w0 w L)(k:∀b w',OwnS S w0 w' (pgE b Pg.pge0 nilS nilS::L)→K (.pointer (some ⟨b,0,none⟩)) w'):DoX prog (mAlloc 48) w PK K:=
 o_new (fun b=>.pointer (some ⟨b,0,none⟩)) (pgC Pg.pge0 nilS nilS) 48 (fun _=>by kernel_rfl) ho k
theorem pg_put (j:Nat){b:Nat}{p p':Pge}{vk vc vk' vc':Value}(hk:vk'.oneCell'=true)(hc:vc'.oneCell'=true)(ho:OwnS S w0 w L)(hi:L[j]?=some (pgE b p vk vc))(k:∀w',OwnS S w0 w' (L.set j (pgE b p' vk' vc'))→K undef w') :
  DoX prog (mStore 48 (.pointer (some ⟨b,0,none⟩)) (pgV p' vk' vc')) w PK K:=o_put j ho hi (new:=pgC p' vk' vc') szPg (pgC_one p' hk hc) rfl k
theorem pg_v (ho:OwnS S w0 w L)(j:Nat){b:Nat}{p:Pge}{vk vc:Value}(hi:L[j]?=some (pgE b p vk vc)):DoX prog (mLoad 48 (.pointer (some ⟨b,0,none⟩))) w PK K=K (pgV p vk vc) w:=l_at (ho.agg j hi aggPg)
theorem pg_num (ho:OwnS S w0 w L)(j:Nat){b:Nat}{p:Pge}{vk vc:Value}(hi:L[j]?=some (pgE b p vk vc)):DoX prog (mLoad 3 (.pointer (some ⟨b,0,none⟩))) w PK K=K (.int .i64 p.num) w:=l_cell nInt5 (ho.cell j hi 0 rfl)
theorem pg_rot (ho:OwnS S w0 w L)(j:Nat){b:Nat}{p:Pge}{vk vc:Value}(hi:L[j]?=some (pgE b p vk vc)):DoX prog (mLoad 3 (.pointer (some ⟨b,0+9,none⟩))) w PK K=K (.int .i64 p.rotate) w:=l_cell nInt5 (ho.cell j hi 9 rfl)
theorem pg_media (ho:OwnS S w0 w L)(j:Nat){b:Nat}{p:Pge}{vk vc:Value}(hi:L[j]?=some (pgE b p vk vc)):DoX prog (mLoad 43 (.pointer (some ⟨b,0+1,none⟩))) w PK K=K (rcV p.media) w:=l_at (ho.subAgg j hi (0+1) (rcC p.media) rfl aggRc)
theorem pg_crop (ho:OwnS S w0 w L)(j:Nat){b:Nat}{p:Pge}{vk vc:Value}(hi:L[j]?=some (pgE b p vk vc)):DoX prog (mLoad 43 (.pointer (some ⟨b,0+5,none⟩))) w PK K=K (rcV p.crop) w:=l_at (ho.subAgg j hi (0+5) (rcC p.crop) rfl aggRc)
theorem pg_res (ho:OwnS S w0 w L)(j:Nat){b:Nat}{p:Pge}{vk vc:Value}(hi:L[j]?=some (pgE b p vk vc)):DoX prog (mLoad 26 (.pointer (some ⟨b,0+10,none⟩))) w PK K=K (obV p.res vk vc) w:=l_at (ho.subAgg j hi (0+10) (obC p.res vk vc) rfl aggOb)
theorem pg_putM (j:Nat){b:Nat}{p:Pge}{r:Rc}{vk vc:Value}(ho:OwnS S w0 w L)(hi:L[j]?=some (pgE b p vk vc))(k:∀w',OwnS S w0 w' (L.set j (pgE b ⟨p.num,r,p.crop,p.rotate,p.res⟩ vk vc))→K undef w') :
  DoX prog (mStore 43 (.pointer (some ⟨b,0+1,none⟩)) (rcV r)) w PK K:=o_putAt j ho hi (new:=rcC r) szRc (rcC_one r) (by show 0+1+4≤16;omega) k
theorem pg_putC (j:Nat){b:Nat}{p:Pge}{r:Rc}{vk vc:Value}(ho:OwnS S w0 w L)(hi:L[j]?=some (pgE b p vk vc))(k:∀w',OwnS S w0 w' (L.set j (pgE b ⟨p.num,p.media,r,p.rotate,p.res⟩ vk vc))→K undef w') :
  DoX prog (mStore 43 (.pointer (some ⟨b,0+5,none⟩)) (rcV r)) w PK K:=o_putAt j ho hi (new:=rcC r) szRc (rcC_one r) (by show 0+5+4≤16;omega) k
theorem pg_putR (j:Nat){b:Nat}{p:Pge}{n:Int}{vk vc:Value}(ho:OwnS S w0 w L)(hi:L[j]?=some (pgE b p vk vc))(k:∀w',OwnS S w0 w' (L.set j (pgE b ⟨p.num,p.media,p.crop,n,p.res⟩ vk vc))→K undef w') :
  DoX prog (mStore 3 (.pointer (some ⟨b,0+9,none⟩)) (.int .i64 n)) w PK K:=o_store j ho hi (by kernel_rfl) rfl (by show 0+9 < 16;omega) k
theorem pg_putO (j:Nat){b:Nat}{p:Pge}{o:Ob}{vk vc vk' vc':Value}(hk:vk'.oneCell'=true)(hc:vc'.oneCell'=true)(ho:OwnS S w0 w L)(hi:L[j]?=some (pgE b p vk vc))(k:∀w',OwnS S w0 w' (L.set j (pgE b ⟨p.num,p.media,p.crop,p.rotate,o⟩ vk' vc'))→K undef w') :
  DoX prog (mStore 26 (.pointer (some ⟨b,0+10,none⟩)) (obV o vk' vc')) w PK K:=o_putAt j ho hi (new:=obC o vk' vc') szOb (obC_one o hk hc) (by show 0+10+6≤16;omega) k
theorem m_pg0:DoX prog (mBuild 48 #[]) w PK K=K (pgV Pg.pge0 nilS nilS) w:=do_eq (by kernel_rfl)
theorem m_dict:DoX prog (mBuild 26 #[(0,.int .i64 7)]) w PK K=K (obV Pg.dict0 nilS nilS) w:=do_eq (by kernel_rfl)
theorem m_pgN {n:Int}:DoX prog (mBuild 48 #[(0,.int .i64 n),(4,obV Pg.dict0 nilS nilS)]) w PK K=K (pgV ⟨n,Pg.rc0,Pg.rc0,0,Pg.dict0⟩ nilS nilS) w:=do_eq (by kernel_rfl)
theorem o_trb (d:Dc){vi vk vc:Value}{mb:Nat}{n e:Int}(hi:vi.oneCell'=true)(hk:vk.oneCell'=true)(hc:vc.oneCell'=true)(ho:OwnS S w0 w L)(k:∀b w',OwnS S w0 w' (trE35 b d vi vk vc mb n e::L)→K (.pointer (some ⟨b,0,none⟩)) w'):DoX prog (mBox 116 (trvV d vi vk vc mb n e)) w PK K:=by
 cases vi<;>first|(cases hi;done)|skip
 all_goals cases vk<;>first|(cases hk;done)|skip
 all_goals cases vc<;>first|(cases hc;done)|exact o_new (fun b=>.pointer (some ⟨b,0,none⟩)) (trC d _ _ _ mb n e) 116 (fun _=>by kernel_rfl) ho k
theorem m_tr {d:Dc}{vi vk vc:Value}{mb:Nat}(hi:vi.oneCell'=true)(hk:vk.oneCell'=true)(hc:vc.oneCell'=true):DoX prog (mBuild 116 #[(0,dcV d vi vk vc),(1,.map (some mb))]) w PK K=K (trvV d vi vk vc mb 0 0) w:=by
 cases vi<;>first|(cases hi;done)|skip
 all_goals cases vk<;>first|(cases hk;done)|skip
 all_goals cases vc<;>first|(cases hc;done)|exact do_eq (by kernel_rfl)
theorem tr_trl (ho:OwnS S w0 w L)(j:Nat){b:Nat}{d:Dc}{vi vk vc:Value}{mb:Nat}{n e:Int}(hi:L[j]?=some (trE35 b d vi vk vc mb n e)):DoX prog (mLoad 26 (.pointer (some ⟨b,0+1,none⟩))) w PK K=K (obV d.trailer vk vc) w:=l_at (ho.subAgg j hi (0+1) (obC d.trailer vk vc) rfl aggOb)
theorem tr_met (ho:OwnS S w0 w L)(j:Nat){b:Nat}{d:Dc}{vi vk vc:Value}{mb:Nat}{n e:Int}(hi:L[j]?=some (trE35 b d vi vk vc mb n e)):DoX prog (mLoad 114 (.pointer (some ⟨b,0+7,none⟩))) w PK K=K (.map (some mb)) w:=l_cell nMapIB (ho.cell j hi 7 rfl)
theorem tr_n (ho:OwnS S w0 w L)(j:Nat){b:Nat}{d:Dc}{vi vk vc:Value}{mb:Nat}{n e:Int}(hi:L[j]?=some (trE35 b d vi vk vc mb n e)):DoX prog (mLoad 3 (.pointer (some ⟨b,0+8,none⟩))) w PK K=K (.int .i64 n) w:=l_cell nInt5 (ho.cell j hi 8 rfl)
theorem tr_e (ho:OwnS S w0 w L)(j:Nat){b:Nat}{d:Dc}{vi vk vc:Value}{mb:Nat}{n e:Int}(hi:L[j]?=some (trE35 b d vi vk vc mb n e)):DoX prog (mLoad 32 (.pointer (some ⟨b,0+9,none⟩))) w PK K=K (.int .i64 e) w:=l_cell (by kernel_rfl) (ho.cell j hi 9 rfl)
theorem tr_putN (j:Nat){b:Nat}{d:Dc}{vi vk vc:Value}{mb:Nat}{n e n':Int}(ho:OwnS S w0 w L)(hi:L[j]?=some (trE35 b d vi vk vc mb n e))(k:∀w',OwnS S w0 w' (L.set j (trE35 b d vi vk vc mb n' e))→K undef w') :
  DoX prog (mStore 3 (.pointer (some ⟨b,0+8,none⟩)) (.int .i64 n')) w PK K:=o_store j ho hi (by kernel_rfl) rfl (by show 0+8 < 10;omega) k
theorem tr_putE (j:Nat){b:Nat}{d:Dc}{vi vk vc:Value}{mb:Nat}{n e e':Int}(ho:OwnS S w0 w L)(hi:L[j]?=some (trE35 b d vi vk vc mb n e))(k:∀w',OwnS S w0 w' (L.set j (trE35 b d vi vk vc mb n e'))→K undef w') :
  DoX prog (mStore 32 (.pointer (some ⟨b,0+9,none⟩)) (.int .i64 e')) w PK K:=o_store j ho hi (by kernel_rfl) rfl (by show 0+9 < 10;omega) k
end
theorem pnumber_ret (o:Ob)(v:Value)(w:World)(hv:OV (InW w) w v o):Ret prog 40 #[v] w (fun v w'=>v=.tuple #[.int .i64 (Pg.number o).1,.bool (Pg.number o).2]∧Below w.heap.size w w'):=by
 refine ret_of fun K hK=>S_value_Number_ok ?_;unfold S_value_Number;obtain⟨xk,xc,cs,rfl,hx⟩:=hv.open;refine o_obb o hx.keys.one hx.kids.one (Own.start w) fun b1 w1 ho=>?_;have ho:Own w w1 [obE b1 o xk xc]:=ho;rw[fa_o1,ob_n ho 0 rfl];have fin:∀{p:Int×Bool},p=Pg.number o→K (.returned (.tuple #[.int .i64 p.1,.bool p.2])) w1:=fun e=>hK _ _ ⟨by rw[e],ho.done⟩;refine join fun J hJ=>?_;have hJ2:∀x,Pg.num1 x=Pg.number o→J [.int .i64 x] w1:=fun x hx=>by
  refine hJ _ _ fun _=>?_;simp only[S_value_Number_0,gd];refine c_eq (within64_ret x _ _ w1) ?_;simp only[rs];unfold Pg.num1 at hx;cases hb:decide (-1073741824≤x)&&decide (x≤1073741824) with
 |true=>
   rw[if_pos hb] at hx;simp only[Bool.not_true,i_f];exact fin hx
 |false=>
   rw[if_neg (by rw[hb];simp)] at hx;simp only[Bool.not_false,i_t];exact fin hx
 rw[fa_o0,ob_k ho 0 rfl];simp only[rs];unfold Pg.number at fin hJ2;by_cases h2:o.k=2
 ·rw[if_pos h2] at fin hJ2;simp only[decide_eq_true h2,i_t];refine c_eq (within64_ret o.n _ _ w1) ?_;simp only[rs];cases hb:decide (-107374≤o.n)&&decide (o.n≤107374) with
 |false=>
   rw[if_neg (by rw[hb];simp)] at fin;simp only[Bool.not_false,i_t];exact fin rfl
 |true=>
   rw[if_pos hb] at hJ2;simp only[Bool.and_eq_true,decide_eq_true_eq] at hb;simp only[Bool.not_true,i_f];rw[wrap64_id (by omega) (by omega)];exact hJ2 _ rfl
 ·rw[if_neg h2] at fin hJ2;simp only[decide_eq_false h2,i_f];by_cases h3:o.k=3
  ·rw[if_pos h3] at hJ2;simp only[decide_eq_true h3,i_t];exact hJ2 _ rfl
  ·rw[if_neg h3] at fin;simp only[decide_eq_false h3,i_f];exact fin rfl
end
section
open Eng Go.RowKit
section
variable {w:World}{K:VWP}{S:Nat→Prop}{w0:World}{L:List Ent}
theorem run_trdoc {W:World}{b:Nat}{d:Dc}{vi vk vc:Value}{mb:Nat}{n e:Int}(h:(trE35 b d vi vk vc mb n e).is W):(mLoad 28 (.pointer (some ⟨b,0,none⟩))).run prog W=.ok (.value (dcV d vi vk vc)) W:=by
 refine run_load_at (AtV.agg aggDc (cs:=dcC d vi vk vc) rfl fun j v hj=>?_);rw[Nat.zero_add];refine cells_cell (T:=116) h ?_;unfold trC;rw[List.getElem?_append_left (List.getElem?_eq_some_iff.1 hj).1];exact hj
theorem run_obload {W:World}{b:Nat}{o:Ob}{vk vc:Value}(h:(obE b o vk vc).is W):(mLoad 26 (.pointer (some ⟨b,0,none⟩))).run prog W=.ok (.value (obV o vk vc)) W:=
 run_load_at (AtV.agg aggOb (cs:=obC o vk vc) rfl fun j v hj=>by rw[Nat.zero_add];exact cells_cell (T:=26) h hj)
theorem o_str1M {PK:PKT}{M:Mem}(key:List UInt8)(jm:Nat)(ho:OwnS S w0 w L)(hm:L[jm]?=some (.mem M))
  (k:∀v N w',M.le N→SlA N.A N.w v 1 1 (strsV [key])→OwnS S w0 w' (L.set jm (.mem N))→K v w'):DoX prog (mBuildS 23 1 #[(0,.string ⟨key.toArray⟩)]) w PK K:=by
 refine o_strb1 key ho fun b7 w7 ho=>?_;obtain⟨N2,hle2,hrow2,ho⟩:=OwnS.freezeU (L:=L) (ho.toU 1 1 1 rfl (by omega) (by omega)) jm hm;exact k _ N2 w7 hle2 hrow2 ho
theorem h_path {PK:PKT}{F:VWP}{bt bo mb:Nat}{d:Dc}{vi vk vc ok oc:Value}{cs:List Value}{n e:Int}{o:Ob}{M:Mem}(key:List UInt8)(jt jo jm:Nat)(h1:jm≠jt)(h2:jm≠jo)(ho:OwnS S w0 w L)
  (ht:L[jt]?=some (trE35 bt d vi vk vc mb n e)) (hjo:L[jo]?=some (obE bo o ok oc)) (hm:L[jm]?=some (.mem M)) (hd:Dk.Ok d) (hda:DocAt M.A M.w d vi vk vc cs) (hov:OV M.A M.w (obV o ok oc) o) (hw:o.wt≤1000000000) (h8:Dk.follow d o=o)
  (k:∀b N yk yc W,M.le N→OV N.A N.w (obV (Pg.val d o key) yk yc) (Pg.val d o key)→OwnS S w0 W (obE b (Pg.val d o key) yk yc::L.set jm (.mem N))→F (.pointer (some ⟨b,0,none⟩)) W) :
  HeldX w (fun S1 w=>
 HDo prog (fun _=>True) (mNil (.pointer (some ⟨bt,0,none⟩))) fun t10=>
 HDo prog (fun _=>True) (mFA 116 t10 0) fun t11=>
 HDo prog S1 (mLoad 28 t11) fun t12=>
 HDo prog S1 (mLoad 26 (.pointer (some ⟨bo,0,none⟩))) fun t13=>
 (DoX prog (mBuildS 23 1 #[(0,.string ⟨key.toArray⟩)]) w PK fun t14 w=>
 S1 w∧((CallX prog 58 #[t12,t13,t14] w PK fun t15 w=>
 (DoX prog (mAlloc 26) w PK fun t5 w=>
 S1 w∧(DoX prog (mStore 26 t5 t15) w PK fun _ w=>
 (F t5 w))))∧(DoX prog (mAlloc 26) w PK fun t5_1 w=>
 S1 w∧(CallX prog 58 #[t12,t13,t14] w PK fun t15_1 w=>
 (DoX prog (mStore 26 t5_1 t15_1) w PK fun _ w=>
 (F t5_1 w))))))∧(DoX prog (mAlloc 26) w PK fun t5_2 w=>
 S1 w∧(DoX prog (mBuildS 23 1 #[(0,.string ⟨key.toArray⟩)]) w PK fun t14_1 w=>
 S1 w∧(CallX prog 58 #[t12,t13,t14_1] w PK fun t15_2 w=>
 (DoX prog (mStore 26 t5_2 t15_2) w PK fun _ w=>
 (F t5_2 w)))))):=by
 have ho:=ho.drew;have hjml:jm < L.length:=(List.getElem?_eq_some_iff.1 hm).1;have gt:∀N,(L.set jm (.mem N))[jt]?=some (trE35 bt d vi vk vc mb n e):=fun N=>by rw[List.getElem?_set_ne h1];exact ht
 have go:∀N,(L.set jm (.mem N))[jo]?=some (obE bo o ok oc):=fun N=>by rw[List.getElem?_set_ne h2];exact hjo
 have gm:∀N,(L.set jm (.mem N))[jm]?=some (.mem N):=fun N=>by rw[List.getElem?_set_self hjml]
 have gs:∀N N',(L.set jm (.mem N)).set jm (.mem N')=L.set jm (.mem N'):=fun N N'=>List.set_set _;have hval:Dk.path d (Dk.follow d o) [key]=Pg.val d o key:=by rw[h8];rfl
 have st:∀(b:Nat) (N:Mem) (y:Value) (W:World),M.le N→OV N.A N.w y (Pg.val d o key)→OwnS S w0 W (obE b ob0 nilS nilS::L.set jm (.mem N)) →
   DoX prog (mStore 26 (.pointer (some ⟨b,0,none⟩)) y) W PK fun _ w=>F (.pointer (some ⟨b,0,none⟩)) w:=by
  intro b N y W hle hy ho;obtain⟨yk,yc,ycs,rfl,hya⟩:=hy.open;refine ob_put 0 hya.keys.one hya.kids.one ho rfl fun w6 ho=>?_;exact k b N yk yc w6 hle hy ho
 refine⟨fun W=>(trE35 bt d vi vk vc mb n e).is W∧(obE bo o ok oc).is W,⟨ho.at_ jt ht,ho.at_ jo hjo⟩,?_⟩;refine hd_pure _ (fun _=>rfl) (hd_pure _ (fun _=>run_fa fo_pt0) (hd_do _ (fun W h=>run_trdoc h.1) (hd_do _ (fun W h=>run_obload h.2) ?_)));constructor
 ·refine o_str1M key jm ho hm fun sv N1 w1 hle1 hs ho=>?_;refine⟨⟨ho.at_ jt (gt _),ho.at_ jo (go _)⟩,?_,?_⟩
  ·refine c_mem ho jm (gm _) (dpath_ret d o [key] _ _ _ N1 w1 hd hw (by simp) (ho.hasM jm (gm _)) (hda.le hle1).dv (hov.le hle1) hs) fun y N2 w2 hle2 hy ho=>?_;rw[hval] at hy;rw[gs] at ho;refine o_oba ho fun b w3 ho=>?_;exact⟨⟨ho.at_ (jt+1) (gt _),ho.at_ (jo+1) (go _)⟩,st b N2 y w3 (hle1.trans hle2) hy ho⟩
  ·refine o_oba ho fun b w2 ho=>?_;refine⟨⟨ho.at_ (jt+1) (gt _),ho.at_ (jo+1) (go _)⟩,?_⟩;refine c_mem ho (jm+1) (gm _) (dpath_ret d o [key] _ _ _ N1 w2 hd hw (by simp) (ho.hasM (jm+1) (gm _)) (hda.le hle1).dv (hov.le hle1) hs) fun y N2 w3 hle2 hy ho=>?_;rw[hval] at hy;rw[List.set_cons_succ,gs] at ho;exact st b N2 y w3 (hle1.trans hle2) hy ho
 ·refine o_oba ho fun b w1 ho=>?_;refine⟨⟨ho.at_ (jt+1) ht,ho.at_ (jo+1) hjo⟩,?_⟩;refine o_str1M key (jm+1) ho hm fun sv N1 w2 hle1 hs ho=>?_;rw[List.set_cons_succ] at ho;refine⟨⟨ho.at_ (jt+1) (gt _),ho.at_ (jo+1) (go _)⟩,?_⟩;refine c_mem ho (jm+1) (gm _) (dpath_ret d o [key] _ _ _ N1 w2 hd hw (by simp) (ho.hasM (jm+1) (gm _)) (hda.le hle1).dv (hov.le hle1) hs) fun y N2 w3 hle2 hy ho=>?_;rw[hval] at hy;rw[List.set_cons_succ,gs] at ho;exact st b N2 y w3 (hle1.trans hle2) hy ho
end
theorem Pg.val_wt {d:Dc}(h:Dk.Ok d){o:Ob}(k:List UInt8)(hw:o.wt≤1000000000):(Pg.val d o k).wt≤1000000000:=Dk.path_wt h [k] hw
def Pg.kindS (d:Dc)(o:Ob):List UInt8:=if o.k≠7 then [] else if Pg.leafB d o=true then Pg.pageN else if Pg.nodeB d o=true then Pg.pagesN else []
theorem c_wrong {S:Nat→Prop}{w0 w:World}{L:List Ent}{PK:PKT}{K:VWP}{bt mb:Nat}{d:Dc}{vi vk vc:Value}{n:Int}(b:Bool)(x:Int)(jt:Nat)(hx:x≠0)(ho:OwnS S w0 w L)(ht:L[jt]?=some (trE35 bt d vi vk vc mb n 0))
  (k:∀W,OwnS S w0 W (L.set jt (trE35 bt d vi vk vc mb n (if b=true then x else 0)))→K (.bool b) W):CallX prog 121 #[.pointer (some ⟨bt,0,none⟩),.bool b,.int .i64 x] w PK K:=by
 have hjl:jt < L.length:=(List.getElem?_eq_some_iff.1 ht).1;refine c_any (S_pages_tree_wrong_ok (K:=RetK fun v W=>v=.bool b∧OwnS S w0 W (L.set jt (trE35 bt d vi vk vc mb n (if b=true then x else 0)))) ?_) (fun e W ⟨v,he,hv,ho⟩=>by subst he;subst hv;exact k W ho);unfold S_pages_tree_wrong;generalize hKK:(RetK fun v W=>v=Value.bool b∧OwnS S w0 W (L.set jt (trE35 bt d vi vk vc mb n (if b=true then x else 0))))=KK;refine join fun J hJ=>?_;have fin:∀W,OwnS S w0 W (L.set jt (trE35 bt d vi vk vc mb n (if b=true then x else 0)))→J [] W:=by
  intro W ho;refine hJ _ _ fun _=>?_;unfold S_pages_tree_wrong_0;rw[m_nilP,fa_pt3,tr_e ho jt (by rw[List.getElem?_set_self hjl]),n_err,←hKK];refine retK ⟨?_,ho⟩;cases b
  ·simp
  ·simp[hx]
 cases b with
|false=>
  simp only[rs];refine fin w ?_;have:L.set jt (trE35 bt d vi vk vc mb n 0)=L:=by
   obtain⟨h1,h2⟩:=List.getElem?_eq_some_iff.1 ht;rw[←h2];exact List.set_getElem_self h1
  show OwnS S w0 w (L.set jt (trE35 bt d vi vk vc mb n 0));rw[this];exact ho
|true=>
  simp only[rs,m_nilP,fa_pt3,tr_e ho jt ht,decide_true,i_t];refine tr_putE jt ho ht fun W ho=>?_;exact fin W ho
theorem p_kind_ret {S:Nat→Prop}{w0 w:World}{L:List Ent}{PK:PKT}{K:VWP}{bt mb:Nat}{d:Dc}{vi vk vc:Value}{cs:List Value}{n e:Int}{o:Ob}{v:Value}{M:Mem}(jt jm:Nat)(h1:jm≠jt)(ho:OwnS S w0 w L)
  (ht:L[jt]?=some (trE35 bt d vi vk vc mb n e)) (hm:L[jm]?=some (.mem M)) (hd:Dk.Ok d) (hda:DocAt M.A M.w d vi vk vc cs) (hov:OV M.A M.w v o) (hw:o.wt≤1000000000)
  (k:∀N W,M.le N→OwnS S w0 W (L.set jm (.mem N))→K (.string ⟨(Pg.kindS d o).toArray⟩) W):CallX prog 120 #[.pointer (some ⟨bt,0,none⟩),v] w PK K:=by
 obtain⟨ok,oc,ocs,rfl,hoa⟩:=hov.open;have hjl:jm < L.length:=(List.getElem?_eq_some_iff.1 hm).1;refine c_any (S_pages_tree_kind_ok (K:=RetK fun r W=>r=.string ⟨(Pg.kindS d o).toArray⟩∧∃N,M.le N∧OwnS S w0 W (L.set jm (.mem N))) ?_) (fun e W ⟨v,he,hv,N,hle,ho⟩=>by subst he;subst hv;exact k N W hle ho);unfold S_pages_tree_kind;refine o_obb o hoa.keys.one hoa.kids.one ho fun b3 w1 ho=>?_;rw[fa_o0,ob_k ho 0 rfl];simp only[rs];by_cases h7:o.k=7
 case neg=>
  simp only[h7,ne_eq,not_false_eq_true,decide_true,i_t];refine retK ⟨by unfold Pg.kindS;rw[if_pos h7],M,M.le_refl,?_⟩;have:L.set jm (.mem M)=L:=by
   obtain⟨h1,h2⟩:=List.getElem?_eq_some_iff.1 hm;rw[←h2];exact List.set_getElem_self h1
  rw[this];exact ho.tail
 simp only[h7,ne_eq,not_true,decide_false,i_f];have h8:Dk.follow d o=o:=by unfold Dk.follow;rw[if_pos (by omega)]
 refine h_path Dk.typeK (jt+1) 0 (jm+1) (by omega) (by omega) ho ht rfl hm hd hda hov hw h8 fun b N yk yc W hle hy ho=>?_;rw[List.set_cons_succ] at ho;unfold S_pages_tree_kind_0;rw[fa_o0,ob_k ho 0 rfl];simp only[rs];have hkn:Pg.kindS d o=if (Pg.val d o Dk.typeK).k=5 then (if (Pg.val d o Dk.typeK).s=Pg.pageN then Pg.pageN else if (Pg.val d o Dk.typeK).s=Pg.pagesN then Pg.pagesN else []) else []:=by
  unfold Pg.kindS Pg.leafB Pg.nodeB Pg.named;rw[if_neg (by simp[h7])];by_cases h5:(Pg.val d o Dk.typeK).k=5<;>simp[h5]
 have fin:∀s,s=Pg.kindS d o→RetK (fun r W=>r=.string ⟨(Pg.kindS d o).toArray⟩∧∃N,M.le N∧OwnS S w0 W (L.set jm (.mem N))) (.returned (.string ⟨s.toArray⟩)) W:=by
  rintro s rfl;exact retK ⟨rfl,N,hle,ho.tail.tail⟩
 by_cases h5:(Pg.val d o Dk.typeK).k=5
 case neg=>
  rw[if_neg h5] at hkn;simp only[h5,ne_eq,not_false_eq_true,decide_true,rs,g_un];exact fin [] hkn.symm
 rw[if_pos h5] at hkn;simp only[h5,ne_eq,not_true,decide_false,rs,fa_o3,ob_s ho 0 rfl];by_cases hp:(Pg.val d o Dk.typeK).s=Pg.pageN
 ·rw[if_pos hp] at hkn;have hp':(Pg.val d o Dk.typeK).s=[80,97,103,101]:=hp;simp only[hp',ne_eq,not_true,decide_false,rs,g_un,fa_o3,ob_s ho 0 rfl];exact fin _ (by rw[hkn];rfl)
 rw[if_neg hp] at hkn;have hp':¬(Pg.val d o Dk.typeK).s=[80,97,103,101]:=hp;simp only[hp',ne_eq,not_false_eq_true,decide_true,rs,fa_o3,ob_s ho 0 rfl];by_cases hq:(Pg.val d o Dk.typeK).s=Pg.pagesN
 ·rw[if_pos hq] at hkn;have hq':(Pg.val d o Dk.typeK).s=[80,97,103,101,115]:=hq;simp only[hq',ne_eq,not_true,decide_false,rs,fa_o3,ob_s ho 0 rfl];exact fin _ (by rw[hkn];rfl)
 ·rw[if_neg hq] at hkn;have hq':¬(Pg.val d o Dk.typeK).s=[80,97,103,101,115]:=hq;simp only[hq',ne_eq,not_false_eq_true,decide_true,rs];exact fin [] hkn.symm
theorem hd_lss {P:Program}{C:World→Prop}{K:Value→Prop}{T:TypeId}{k:IntKind}{a b:Int}(h:K (.bool (decide (a < b)))):HDo P C (mBin .lss T (.int k a) (.int k b)) K:=hd_pure _ (fun _=>mv_run (by simp[binOp,Op.intCmp])) h
theorem hd_pick {P:Program}{C:World→Prop}{K:Value→Prop}{c:Bool}{a b:Value}(h:K (if c then a else b)):HDo P C (mPick (.bool c) a b) K:=hd_pure _ (fun _=>by simp[mPick,asBool]) h
theorem run_rcv {W:World}{b:Nat}{r:Rc}(h:(rcE b r).is W):(mLoad 43 (.pointer (some ⟨b,0,none⟩))).run prog W=.ok (.value (rcV r)) W:=
 run_load_at (AtV.agg aggRc (cs:=rcC r) rfl fun j v hj=>by rw[Nat.zero_add];exact cells_cell (T:=43) h hj)
theorem ret_rc2 {S:Nat→Prop}{w0 w:World}{L:List Ent}{K:Ending→World→Prop}{b:Nat}{r:Rc}{x:Value}(i:Nat)(ho:OwnS S w0 w L)(hi:L[i]?=some (rcE b r))(k:K (.returned (.tuple #[rcV r,x])) w):RetX prog [.cell (.pointer (some ⟨b,0,none⟩)) 43,.val x] w K:=
 ret_v2 (rv_cell (ho.agg i hi aggRc)) rv_val k
theorem pcut_ret (r s:Rc)(w:World):Ret prog 67 #[rcV r,rcV s] w (fun v w'=>v=.tuple #[rcV (Pg.cut r s),.bool (Pg.room (Pg.cut r s))]∧Below w.heap.size w w'):=by
 refine ret_of fun K hK=>S_pages_cut_ok ?_;unfold S_pages_cut;refine o_rcb r (Own.start w) fun b2 w1 ho=>?_;refine o_rcb s ho fun b3 w2 ho=>?_;refine o_rca ho fun b4 w3 ho=>?_;rw[fa_rc0,rc_0 ho 2 rfl,fa_rc0,rc_0 ho 1 rfl,m_max64,fa_rc1,rc_1 ho 2 rfl,fa_rc1,rc_1 ho 1 rfl,m_max64,fa_rc2,rc_2 ho 2 rfl,fa_rc2,rc_2 ho 1 rfl,m_min,fa_rc3,rc_3 ho 2 rfl,fa_rc3,rc_3 ho 1 rfl,m_min,m_rc];refine o_rca ho fun b6 w4 ho=>?_;refine rc_put (r':=Pg.cut r s) 0 ho rfl fun w5 ho=>?_;have ho:Own w w5 [rcE b6 (Pg.cut r s),rcE b4 Pg.rc0,rcE b3 s,rcE b2 r]:=ho;generalize hc:Pg.cut r s=c at *;have hd:=ho.drew;refine⟨fun W=>(rcE b6 c).is W,hd.at_ 0 rfl,?_⟩;refine hd_do (rcV c) (fun W h=>run_rcv h) ?_;refine hd_pure _ (fun _=>run_fa fo_rc0) (hd_do (.int .i64 c.x0) (fun W h=>run_load_cell nI64p (cells_cell (T:=43) h (i:=0) rfl)) ?_);refine hd_pure _ (fun _=>run_fa fo_rc2) (hd_do (.int .i64 c.x1) (fun W h=>run_load_cell nI64p (cells_cell (T:=43) h (i:=0+2) rfl)) (hd_lss ?_));have fin:∀(x:Bool) {PK:PKT},x=Pg.room c→DoX prog (mStore 43 (.pointer (some ⟨b4,0,none⟩)) (rcV c)) w5.drew PK fun _ w=>(rcE b6 c).is w∧RetX prog [.cell (.pointer (some ⟨b4,0,none⟩)) 43,.val (.bool x)] w K:=by
  rintro x PK rfl;refine rc_put 1 hd rfl fun w6 ho=>⟨ho.at_ 0 rfl,?_⟩;exact ret_rc2 1 ho rfl (hK _ _ ⟨rfl,ho.done⟩)
 unfold Pg.room at fin;by_cases hx:c.x0 < c.x1
 ·simp only[hx,decide_true,gq];refine hd_pure _ (fun _=>run_fa fo_rc1) (hd_do (.int .i64 c.y0) (fun W h=>run_load_cell nI64p (cells_cell (T:=43) h (i:=0+1) rfl)) ?_);refine hd_pure _ (fun _=>run_fa fo_rc3) (hd_do (.int .i64 c.y1) (fun W h=>run_load_cell nI64p (cells_cell (T:=43) h (i:=0+3) rfl)) (hd_lss (hd_pick ?_)));exact fin _ (by simp[hx])
 ·simp only[hx,decide_false,gq];refine hd_pick ?_;exact fin _ (by simp[hx])
end
section
open Eng
def S_foliantref35_At (t0 t1 t2:Value)(w:World)(K:Ending→World→Prop):Prop:=
 DoX prog (mBox 28 t0) w (pk K) fun t3 w=>
 DoX prog (mBox 26 t1) w (pk K) fun t4 w=>
 DoX prog (mAlloc 26) w (pk K) fun t6 w=>
 DoX prog (mLoad 26 t4) w (pk K) fun t10 w=>
 CallX prog 95 #[t10,t2] w (pk K) fun t12 w=>
 DoX prog (mExt t12 0) w (pk K) fun t13 w=>
 DoX prog (mExt t12 1) w (pk K) fun t14 w=>
 DoX prog (mAlloc 26) w (pk K) fun t7 w=>
 DoX prog (mStore 26 t7 t13) w (pk K) fun _ w=>
 DoX prog (mUn .not t14) w (pk K) fun t16 w=>
 IfX t16 (CallX prog 97 #[] w (pk K) fun t17 w=>
 DoX prog (mStore 26 t6 t17) w (pk K) fun _ w=>
 RetX prog [.cell t6 26] w K) (DoX prog (mLoad 28 t3) w (pk K) fun t18 w=>
 DoX prog (mLoad 26 t7) w (pk K) fun t19 w=>
 CallX prog 41 #[t18,t19] w (pk K) fun t20 w=>
 DoX prog (mStore 26 t6 t20) w (pk K) fun _ w=>
 RetX prog [.cell t6 26] w K)
theorem S_foliantref35_At_eq (t0 t1 t2:Value)(w:World)(K:Ending→World→Prop):wpX prog 21 [] [] none (bodyOf Tryz.f94) (topQ prog [.cell 6 26] K) (startX [t0,t1,t2]) [] w=S_foliantref35_At t0 t1 t2 w K:=by kernel_rfl
theorem S_foliantref35_At_ok {t0 t1 t2:Value}{w:World}{K:Ending→World→Prop}(h:S_foliantref35_At t0 t1 t2 w K):Calls prog 94 #[t0,t1,t2] w K:=
 calls_of_wpX Tryz.func94 rfl rfl rfl rfl (Eq.mpr (S_foliantref35_At_eq t0 t1 t2 w K) h)
def S_foliantref35_named (t0 t1 t2 t3:Value)(w:World)(K:Ending→World→Prop):Prop:=
 DoX prog (mBox 28 t0) w (pk K) fun t4 w=>
 DoX prog (mBox 26 t1) w (pk K) fun t5 w=>
 DoX prog (mLoad 28 t4) w (pk K) fun t10 w=>
 DoX prog (mLoad 26 t5) w (pk K) fun t11 w=>
 CallX prog 94 #[t10,t11,t2] w (pk K) fun t13 w=>
 DoX prog (mAlloc 26) w (pk K) fun t9 w=>
 DoX prog (mStore 26 t9 t13) w (pk K) fun _ w=>
 DoX prog (mFA 26 t9 0) w (pk K) fun t14 w=>
 DoX prog (mLoad 3 t14) w (pk K) fun t15 w=>
 DoX prog (mEq .eql 3 (.tmp 15) (.const (.int .i64 5)) t15 (.int .i64 5)) w (pk K) fun t16 w=>
 GDo t16 true (fun E=>DoX prog (mFA 26 t9 3) w (pk K) E) w fun t18 w=>
 GDo t16 true (fun E=>DoX prog (mLoad 9 t18) w (pk K) E) w fun t19 w=>
 GDo t16 true (fun E=>E t3 w) w fun t20 w=>
 GDo t16 true (fun E=>DoX prog (mEq .eql 9 (.tmp 19) (.tmp 20) t19 t20) w (pk K) E) w fun t21 w=>
 DoX prog (mPick t16 t21 (.bool false)) w (pk K) fun t22 w=>
 K (.returned t22) w
theorem S_foliantref35_named_eq (t0 t1 t2 t3:Value)(w:World)(K:Ending→World→Prop):wpX prog 23 [] [] none (bodyOf Tryz.f93) (topQ prog [.tmp 8] K) (startX [t0,t1,t2,t3]) [] w=S_foliantref35_named t0 t1 t2 t3 w K:=by kernel_rfl
theorem S_foliantref35_named_ok {t0 t1 t2 t3:Value}{w:World}{K:Ending→World→Prop}(h:S_foliantref35_named t0 t1 t2 t3 w K):Calls prog 93 #[t0,t1,t2,t3] w K:=
 calls_of_wpX Tryz.func93 rfl rfl rfl rfl (Eq.mpr (S_foliantref35_named_eq t0 t1 t2 t3 w K) h)
def S_foliantref35_Root (t0:Value)(w:World)(K:Ending→World→Prop):Prop:=
 DoX prog (mBox 28 t0) w (pk K) fun t1 w=>
 DoX prog (mAlloc 26) w (pk K) fun t2 w=>
 DoX prog (mLoad 28 t1) w (pk K) fun t3 w=>
 DoX prog (mFA 28 t1 1) w (pk K) fun t4 w=>
 DoX prog (mLoad 26 t4) w (pk K) fun t5 w=>
 DoX prog (mBuildS 23 1 #[(0,(.string ⟨#[82,111,111,116]⟩))]) w (pk K) fun t6 w=>
 CallX prog 122 #[t3,t5,t6] w (pk K) fun t7 w=>
 DoX prog (mStore 26 t2 t7) w (pk K) fun _ w=>
 RetX prog [.cell t2 26] w K
theorem S_foliantref35_Root_eq (t0:Value)(w:World)(K:Ending→World→Prop):wpX prog 8 [] [] none (bodyOf Tryz.f96) (topQ prog [.cell 2 26] K) (startX [t0]) [] w=S_foliantref35_Root t0 w K:=by kernel_rfl
theorem S_foliantref35_Root_ok {t0:Value}{w:World}{K:Ending→World→Prop}(h:S_foliantref35_Root t0 w K):Calls prog 96 #[t0] w K:=
 calls_of_wpX Tryz.func96 rfl rfl rfl rfl (Eq.mpr (S_foliantref35_Root_eq t0 w K) h)
def S_foliantref35_First (t0:Value)(w:World)(K:Ending→World→Prop):Prop:=
 DoX prog (mBox 28 t0) w (pk K) fun t1 w=>
 DoX prog (mAlloc 26) w (pk K) fun t2 w=>
 DoX prog (mLoad 28 t1) w (pk K) fun t6 w=>
 CallX prog 96 #[t6] w (pk K) fun t7 w=>
 CallX prog 95 #[t7,(.string ⟨#[80,97,103,101,115]⟩)] w (pk K) fun t8 w=>
 DoX prog (mExt t8 0) w (pk K) fun t9 w=>
 DoX prog (mExt t8 1) w (pk K) fun t10 w=>
 DoX prog (mAlloc 26) w (pk K) fun t3 w=>
 DoX prog (mStore 26 t3 t9) w (pk K) fun _ w=>
 DoX prog (mLoad 26 t3) w (pk K) fun t11 w=>
 DoX prog (mStore 26 t2 t11) w (pk K) fun _ w=>
 RetX prog [.cell t2 26] w K
theorem S_foliantref35_First_eq (t0:Value)(w:World)(K:Ending→World→Prop):wpX prog 12 [] [] none (bodyOf Tryz.f69) (topQ prog [.cell 2 26] K) (startX [t0]) [] w=S_foliantref35_First t0 w K:=by kernel_rfl
theorem S_foliantref35_First_ok {t0:Value}{w:World}{K:Ending→World→Prop}(h:S_foliantref35_First t0 w K):Calls prog 69 #[t0] w K:=
 calls_of_wpX Tryz.func69 rfl rfl rfl rfl (Eq.mpr (S_foliantref35_First_eq t0 w K) h)
def S_foliantref35_step_5 (t7 t8 t9 t16 t17 t18:Value)(w:World)(N7:List Value→World→Prop)(K:Ending→World→Prop):Prop:=
 DoX prog (mEq .neq 32 (.tmp 138) (.const (.int .i64 0)) t18 (.int .i64 0)) w (pk K) fun t139 w=>
 IfX t139 (DoX prog (mLoad 126 t17) w (pk K) fun t140 w=>
 DoX prog (mStore 126 t8 t140) w (pk K) fun _ w=>
 RetX prog [.cell t8 126,.val t18] w K) (DoX prog (mLoad 126 t17) w (pk K) fun t142 w=>
 DoX prog (mStore 126 t7 t142) w (pk K) fun _ w=>
 DoX prog (mBin .add 3 t16 (.int .i64 1)) w (pk K) fun t125 w=>
 N7 [t9,t125] w)
def S_foliantref35_step_4 (t4 t7 t8 t9 t13 t15 t16:Value)(w:World)(N7:List Value→World→Prop)(K:Ending→World→Prop):Prop:=
 DoX prog (mFA 26 t13 5) w (pk K) fun t120 w=>
 DoX prog (mLoad 24 t120) w (pk K) fun t121 w=>
 DoX prog (mB .len #[24] 3 #[false] #[t121]) w (pk K) fun t122 w=>
 DoX prog (mBin .lss 3 t16 t122) w (pk K) fun t123 w=>
 IfX t123 (HeldX w (fun S8 w=>
 HDo prog S8 (mLoad 28 t4) fun t127=>
 HDo prog (fun _=>True) (mFA 26 t13 5) fun t128=>
 HDo prog S8 (mLoad 24 t128) fun t129=>
 HDo prog (fun _=>True) (mIA 24 t129 t16) fun t131=>
 HDo prog S8 (mLoad 26 t131) fun t132=>
 HDo prog S8 (mLoad 126 t7) fun t134=>
 (CallX prog 68 #[t127,t132,t15,t134] w (pm1 (pm1 (pm1 (pm1 (pm1 (pm1 (pm1 (pm1 (pm1 (pm1 (pm1 (pm1 (pk K))))))))))))) fun t135 w=>
 S8 w∧(HDo prog (fun _=>True) (mExt t135 0) fun t136=>
 HDo prog (fun _=>True) (mExt t135 1) fun t137=>
 DoX prog (mAlloc 126) w (pm1 (pm1 (pm1 (pm1 (pm1 (pm1 (pm1 (pm1 (pm1 (pm1 (pm1 (pm1 (pk K))))))))))))) fun t17 w=>
 S8 w∧(DoX prog (mStore 126 t17 t136) w (pm1 (pm1 (pm1 (pm1 (pm1 (pm1 (pm1 (pm1 (pm1 (pm1 (pm1 (pm1 (pk K))))))))))))) fun _ w=>
 (S_foliantref35_step_5 t7 t8 t9 t16 t17 t137 w N7 K))))∧(DoX prog (mAlloc 126) w (pm1 (pm1 (pm1 (pm1 (pm1 (pm1 (pm1 (pm1 (pm1 (pm1 (pm1 (pm1 (pk K))))))))))))) fun t17_1 w=>
 S8 w∧(CallX prog 68 #[t127,t132,t15,t134] w (pm1 (pm1 (pm1 (pm1 (pm1 (pm1 (pm1 (pm1 (pm1 (pm1 (pm1 (pm1 (pk K))))))))))))) fun t135_1 w=>
 S8 w∧(HDo prog (fun _=>True) (mExt t135_1 0) fun t136_1=>
 HDo prog (fun _=>True) (mExt t135_1 1) fun t137_1=>
 DoX prog (mStore 126 t17_1 t136_1) w (pm1 (pm1 (pm1 (pm1 (pm1 (pm1 (pm1 (pm1 (pm1 (pm1 (pm1 (pm1 (pk K))))))))))))) fun _ w=>
 (S_foliantref35_step_5 t7 t8 t9 t16 t17_1 t137_1 w N7 K)))))) (DoX prog (mLoad 126 t7) w (pk K) fun t143 w=>
 DoX prog (mStore 126 t8 t143) w (pk K) fun _ w=>
 RetX prog [.cell t8 126,.val (.int .i64 0)] w K)
def S_foliantref35_step_3 (t7 t8:Value)(w:World)(K:Ending→World→Prop):Prop:=
 DoX prog (mLoad 126 t7) w (pk K) fun t118 w=>
 DoX prog (mStore 126 t8 t118) w (pk K) fun _ w=>
 RetX prog [.cell t8 126,.val (.int .i64 0)] w K
def S_foliantref35_step_2 (t4 t5 t7 t8 t9 t11 t13 t15:Value)(w:World)(K:Ending→World→Prop):Prop:=
 IfX t11 (HeldX w (fun S6 w=>
 HDo prog (fun _=>True) (mFA 126 t7 1) fun t108=>
 HDo prog S6 (mLoad 78 t108) fun t109=>
 HDo prog (fun _=>True) (mFA 26 t5 1) fun t111=>
 HDo prog S6 (mLoad 2 t111) fun t112=>
 HDo prog (fun _=>True) (mBuild 83 #[(0,t112),(1,t15)]) fun t114=>
 (DoX prog (mBuildS 78 0 #[]) w (pm1 (pm1 (pm1 (pm1 (pm1 (pm1 (pm1 (pk K)))))))) fun t107 w=>
 S6 w∧((DoX prog (mB .append #[78,78] 78 #[false,false] #[t107,t109]) w (pm1 (pm1 (pm1 (pm1 (pm1 (pm1 (pm1 (pk K)))))))) fun t110 w=>
 S6 w∧(DoX prog (mBuildS 78 1 #[(0,t114)]) w (pm1 (pm1 (pm1 (pm1 (pm1 (pm1 (pm1 (pk K)))))))) fun t115 w=>
 S6 w∧(DoX prog (mB .append #[78,78] 78 #[false,false] #[t110,t115]) w (pm1 (pm1 (pm1 (pm1 (pm1 (pm1 (pm1 (pk K)))))))) fun t116 w=>
 S6 w∧(HDo prog (fun _=>True) (mFA 126 t7 1) fun t117=>
 DoX prog (mStore 78 t117 t116) w (pm1 (pm1 (pm1 (pm1 (pm1 (pm1 (pm1 (pk K)))))))) fun _ w=>
 (S_foliantref35_step_3 t7 t8 w K)))))∧(DoX prog (mBuildS 78 1 #[(0,t114)]) w (pm1 (pm1 (pm1 (pm1 (pm1 (pm1 (pm1 (pk K)))))))) fun t115_1 w=>
 S6 w∧(DoX prog (mB .append #[78,78] 78 #[false,false] #[t107,t109]) w (pm1 (pm1 (pm1 (pm1 (pm1 (pm1 (pm1 (pk K)))))))) fun t110_1 w=>
 S6 w∧(DoX prog (mB .append #[78,78] 78 #[false,false] #[t110_1,t115_1]) w (pm1 (pm1 (pm1 (pm1 (pm1 (pm1 (pm1 (pk K)))))))) fun t116_1 w=>
 S6 w∧(HDo prog (fun _=>True) (mFA 126 t7 1) fun t117_1=>
 DoX prog (mStore 78 t117_1 t116_1) w (pm1 (pm1 (pm1 (pm1 (pm1 (pm1 (pm1 (pk K)))))))) fun _ w=>
 (S_foliantref35_step_3 t7 t8 w K)))))))∧(DoX prog (mBuildS 78 1 #[(0,t114)]) w (pm1 (pm1 (pm1 (pm1 (pm1 (pm1 (pm1 (pk K)))))))) fun t115_2 w=>
 S6 w∧(DoX prog (mBuildS 78 0 #[]) w (pm1 (pm1 (pm1 (pm1 (pm1 (pm1 (pm1 (pk K)))))))) fun t107_1 w=>
 S6 w∧(DoX prog (mB .append #[78,78] 78 #[false,false] #[t107_1,t109]) w (pm1 (pm1 (pm1 (pm1 (pm1 (pm1 (pm1 (pk K)))))))) fun t110_2 w=>
 S6 w∧(DoX prog (mB .append #[78,78] 78 #[false,false] #[t110_2,t115_2]) w (pm1 (pm1 (pm1 (pm1 (pm1 (pm1 (pm1 (pk K)))))))) fun t116_2 w=>
 S6 w∧(HDo prog (fun _=>True) (mFA 126 t7 1) fun t117_2=>
 DoX prog (mStore 78 t117_2 t116_2) w (pm1 (pm1 (pm1 (pm1 (pm1 (pm1 (pm1 (pk K)))))))) fun _ w=>
 (S_foliantref35_step_3 t7 t8 w K)))))))) (LoopX [t9,(.int .i64 0)] w (fun vs7 w N7=>∀_:Sg,S_foliantref35_step_4 t4 t7 t8 (vs7.getD 0 undef) t13 t15 (vs7.getD 1 undef) w N7 K))
def S_foliantref35_step_1 (t2 t4 t5 t7 t8 t9 t10 t11 t13:Value)(w:World)(K:Ending→World→Prop):Prop:=
 HeldX w (fun S5 w=>
 HDo prog S5 (mLoad 26 t10) fun t103=>
 (DoX prog (mBuildS 24 0 #[]) w (pm1 (pm1 (pm1 (pk K)))) fun t100 w=>
 S5 w∧((DoX prog (mB .append #[24,24] 24 #[false,false] #[t100,t2]) w (pm1 (pm1 (pm1 (pk K)))) fun t102 w=>
 S5 w∧(DoX prog (mBuildS 24 1 #[(0,t103)]) w (pm1 (pm1 (pm1 (pk K)))) fun t104 w=>
 S5 w∧(DoX prog (mB .append #[24,24] 24 #[false,false] #[t102,t104]) w (pm1 (pm1 (pm1 (pk K)))) fun t105 w=>
 S5 w∧(S_foliantref35_step_2 t4 t5 t7 t8 t9 t11 t13 t105 w K))))∧(DoX prog (mBuildS 24 1 #[(0,t103)]) w (pm1 (pm1 (pm1 (pk K)))) fun t104_1 w=>
 S5 w∧(DoX prog (mB .append #[24,24] 24 #[false,false] #[t100,t2]) w (pm1 (pm1 (pm1 (pk K)))) fun t102_1 w=>
 S5 w∧(DoX prog (mB .append #[24,24] 24 #[false,false] #[t102_1,t104_1]) w (pm1 (pm1 (pm1 (pk K)))) fun t105_1 w=>
 S5 w∧(S_foliantref35_step_2 t4 t5 t7 t8 t9 t11 t13 t105_1 w K))))))∧(DoX prog (mBuildS 24 1 #[(0,t103)]) w (pm1 (pm1 (pm1 (pk K)))) fun t104_2 w=>
 S5 w∧(DoX prog (mBuildS 24 0 #[]) w (pm1 (pm1 (pm1 (pk K)))) fun t100_1 w=>
 S5 w∧(DoX prog (mB .append #[24,24] 24 #[false,false] #[t100_1,t2]) w (pm1 (pm1 (pm1 (pk K)))) fun t102_2 w=>
 S5 w∧(DoX prog (mB .append #[24,24] 24 #[false,false] #[t102_2,t104_2]) w (pm1 (pm1 (pm1 (pk K)))) fun t105_2 w=>
 S5 w∧(S_foliantref35_step_2 t4 t5 t7 t8 t9 t11 t13 t105_2 w K))))))
def S_foliantref35_step_0 (t2 t4 t5 t7 t8 t9 t10 t11 t13 t14:Value)(w:World)(N2:List Value→World→Prop)(K:Ending→World→Prop):Prop:=
 DoX prog (mFA 126 t7 0) w (pk K) fun t57 w=>
 DoX prog (mLoad 124 t57) w (pk K) fun t58 w=>
 DoX prog (mB .len #[124] 3 #[false] #[t58]) w (pk K) fun t59 w=>
 DoX prog (mBin .lss 3 t14 t59) w (pk K) fun t60 w=>
 IfX t60 (QuietX w (fun C3=>
 QDo prog C3 (mFA 126 t7 0) fun t63=>
 QDo prog C3 (mLoad 124 t63) fun t64=>
 QDo prog C3 (mIA 124 t64 t14) fun t66=>
 QDo prog C3 (mLoad 3 t66) fun t67=>
 QDo prog C3 (mFA 26 t5 1) fun t68=>
 QDo prog C3 (mLoad 2 t68) fun t69=>
 QDo prog C3 (mEq .eql 3 (.tmp 67) (.tmp 69) t67 t69) fun t70=>
 ∀w,C3 w →
 IfX t70 (DoX prog (mLoad 126 t7) w (pk K) fun t71 w=>
 DoX prog (mStore 126 t8 t71) w (pk K) fun _ w=>
 RetX prog [.cell t8 126,.val (.int .i64 11)] w K) (DoX prog (mBin .add 3 t14 (.int .i64 1)) w (pk K) fun t62 w=>
 N2 [t9,t62] w))) (DoX prog (mB .len #[24] 3 #[false] #[t2]) w (pk K) fun t73 w=>
 DoX prog (mBin .add 3 t73 (.int .i64 1)) w (pk K) fun t74 w=>
 DoX prog (mBin .gtr 3 t74 (.int .i64 24)) w (pk K) fun t75 w=>
 IfX t75 (DoX prog (mLoad 126 t7) w (pk K) fun t76 w=>
 DoX prog (mStore 126 t8 t76) w (pk K) fun _ w=>
 RetX prog [.cell t8 126,.val (.int .i64 7)] w K) (DoX prog (mFA 126 t7 0) w (pk K) fun t77 w=>
 DoX prog (mLoad 124 t77) w (pk K) fun t78 w=>
 DoX prog (mB .len #[124] 3 #[false] #[t78]) w (pk K) fun t79 w=>
 DoX prog (mBin .geq 3 t79 (.int .i64 4096)) w (pk K) fun t80 w=>
 GDo t80 false (fun E=>E t11 w) w fun t82 w=>
 GDo t80 false (fun E=>E t82 w) w fun t83 w=>
 GDo t83 true (fun E=>DoX prog (mFA 126 t7 1) w (pk K) E) w fun t84 w=>
 GDo t83 true (fun E=>DoX prog (mLoad 78 t84) w (pk K) E) w fun t85 w=>
 GDo t83 true (fun E=>DoX prog (mB .len #[78] 3 #[false] #[t85]) w (pk K) E) w fun t86 w=>
 GDo t83 true (fun E=>DoX prog (mBin .geq 3 t86 (.int .i64 2048)) w (pk K) E) w fun t87 w=>
 GDo t80 false (fun E=>DoX prog (mPick t83 t87 (.bool false)) w (pk K) E) w fun t88 w=>
 DoX prog (mPick t80 (.bool true) t88) w (pk K) fun t89 w=>
 IfX t89 (DoX prog (mLoad 126 t7) w (pk K) fun t90 w=>
 DoX prog (mStore 126 t8 t90) w (pk K) fun _ w=>
 RetX prog [.cell t8 126,.val (.int .i64 6)] w K) (HeldX w (fun S4 w=>
 HDo prog (fun _=>True) (mFA 126 t7 0) fun t92=>
 HDo prog S4 (mLoad 124 t92) fun t93=>
 HDo prog (fun _=>True) (mFA 26 t5 1) fun t95=>
 HDo prog S4 (mLoad 2 t95) fun t96=>
 (DoX prog (mBuildS 124 0 #[]) w (pm1 (pm1 (pm1 (pm1 (pm1 (pk K)))))) fun t91 w=>
 S4 w∧((DoX prog (mB .append #[124,124] 124 #[false,false] #[t91,t93]) w (pm1 (pm1 (pm1 (pm1 (pm1 (pk K)))))) fun t94 w=>
 S4 w∧(DoX prog (mBuildS 124 1 #[(0,t96)]) w (pm1 (pm1 (pm1 (pm1 (pm1 (pk K)))))) fun t97 w=>
 S4 w∧(DoX prog (mB .append #[124,124] 124 #[false,false] #[t94,t97]) w (pm1 (pm1 (pm1 (pm1 (pm1 (pk K)))))) fun t98 w=>
 S4 w∧(HDo prog (fun _=>True) (mFA 126 t7 0) fun t99=>
 DoX prog (mStore 124 t99 t98) w (pm1 (pm1 (pm1 (pm1 (pm1 (pk K)))))) fun _ w=>
 (S_foliantref35_step_1 t2 t4 t5 t7 t8 t9 t10 t11 t13 w K)))))∧(DoX prog (mBuildS 124 1 #[(0,t96)]) w (pm1 (pm1 (pm1 (pm1 (pm1 (pk K)))))) fun t97_1 w=>
 S4 w∧(DoX prog (mB .append #[124,124] 124 #[false,false] #[t91,t93]) w (pm1 (pm1 (pm1 (pm1 (pm1 (pk K)))))) fun t94_1 w=>
 S4 w∧(DoX prog (mB .append #[124,124] 124 #[false,false] #[t94_1,t97_1]) w (pm1 (pm1 (pm1 (pm1 (pm1 (pk K)))))) fun t98_1 w=>
 S4 w∧(HDo prog (fun _=>True) (mFA 126 t7 0) fun t99_1=>
 DoX prog (mStore 124 t99_1 t98_1) w (pm1 (pm1 (pm1 (pm1 (pm1 (pk K)))))) fun _ w=>
 (S_foliantref35_step_1 t2 t4 t5 t7 t8 t9 t10 t11 t13 w K)))))))∧(DoX prog (mBuildS 124 1 #[(0,t96)]) w (pm1 (pm1 (pm1 (pm1 (pm1 (pk K)))))) fun t97_2 w=>
 S4 w∧(DoX prog (mBuildS 124 0 #[]) w (pm1 (pm1 (pm1 (pm1 (pm1 (pk K)))))) fun t91_1 w=>
 S4 w∧(DoX prog (mB .append #[124,124] 124 #[false,false] #[t91_1,t93]) w (pm1 (pm1 (pm1 (pm1 (pm1 (pk K)))))) fun t94_2 w=>
 S4 w∧(DoX prog (mB .append #[124,124] 124 #[false,false] #[t94_2,t97_2]) w (pm1 (pm1 (pm1 (pm1 (pm1 (pk K)))))) fun t98_2 w=>
 S4 w∧(HDo prog (fun _=>True) (mFA 126 t7 0) fun t99_2=>
 DoX prog (mStore 124 t99_2 t98_2) w (pm1 (pm1 (pm1 (pm1 (pm1 (pk K)))))) fun _ w=>
 (S_foliantref35_step_1 t2 t4 t5 t7 t8 t9 t10 t11 t13 w K))))))))))
def S_foliantref35_step (t0 t1 t2 t3:Value)(w:World)(K:Ending→World→Prop):Prop:=
 DoX prog (mBox 28 t0) w (pk K) fun t4 w=>
 DoX prog (mBox 26 t1) w (pk K) fun t5 w=>
 DoX prog (mBox 126 t3) w (pk K) fun t7 w=>
 DoX prog (mAlloc 126) w (pk K) fun t8 w=>
 DoX prog (mLoad 28 t4) w (pk K) fun t19 w=>
 DoX prog (mLoad 26 t5) w (pk K) fun t20 w=>
 CallX prog 41 #[t19,t20] w (pk K) fun t21 w=>
 DoX prog (mAlloc 26) w (pk K) fun t10 w=>
 DoX prog (mStore 26 t10 t21) w (pk K) fun _ w=>
 QuietX w (fun C1=>
 QDo prog C1 (mLoad 28 t4) fun t22=>
 QDo prog C1 (mLoad 26 t10) fun t23=>
 QCall prog C1 93 #[t22,t23,(.string ⟨#[84,121,112,101]⟩),(.string ⟨#[80,97,103,101]⟩)] fun t24=>
 QDo prog C1 (mLoad 28 t4) fun t25=>
 QDo prog C1 (mLoad 26 t10) fun t26=>
 QCall prog C1 93 #[t25,t26,(.string ⟨#[84,121,112,101]⟩),(.string ⟨#[80,97,103,101,115]⟩)] fun t27=>
 ∀w,C1 w →
 DoX prog (mLoad 28 t4) w (pk K) fun t28 w=>
 DoX prog (mLoad 26 t10) w (pk K) fun t29 w=>
 CallX prog 94 #[t28,t29,(.string ⟨#[75,105,100,115]⟩)] w (pk K) fun t30 w=>
 DoX prog (mAlloc 26) w (pk K) fun t13 w=>
 DoX prog (mStore 26 t13 t30) w (pk K) fun _ w=>
 DoX prog (mFA 26 t5 0) w (pk K) fun t31 w=>
 DoX prog (mLoad 3 t31) w (pk K) fun t32 w=>
 DoX prog (mEq .neq 3 (.tmp 32) (.const (.int .i64 8)) t32 (.int .i64 8)) w (pk K) fun t33 w=>
 GDo t33 false (fun E=>DoX prog (mFA 26 t10 0) w (pk K) E) w fun t35 w=>
 GDo t33 false (fun E=>DoX prog (mLoad 3 t35) w (pk K) E) w fun t36 w=>
 GDo t33 false (fun E=>DoX prog (mEq .neq 3 (.tmp 36) (.const (.int .i64 7)) t36 (.int .i64 7)) w (pk K) E) w fun t37 w=>
 DoX prog (mPick t33 (.bool true) t37) w (pk K) fun t38 w=>
 GDo t38 false (fun E=>E t24 w) w fun t40 w=>
 GDo t38 false (fun E=>DoX prog (mUn .not t40) w (pk K) E) w fun t41 w=>
 GDo t38 false (fun E=>E t41 w) w fun t42 w=>
 GDo t42 true (fun E=>E t27 w) w fun t43 w=>
 GDo t42 true (fun E=>DoX prog (mUn .not t43) w (pk K) E) w fun t44 w=>
 GDo t38 false (fun E=>DoX prog (mPick t42 t44 (.bool false)) w (pk K) E) w fun t45 w=>
 DoX prog (mPick t38 (.bool true) t45) w (pk K) fun t46 w=>
 GDo t46 false (fun E=>E t27 w) w fun t48 w=>
 GDo t46 false (fun E=>E t48 w) w fun t49 w=>
 GDo t49 true (fun E=>DoX prog (mFA 26 t13 0) w (pk K) E) w fun t50 w=>
 GDo t49 true (fun E=>DoX prog (mLoad 3 t50) w (pk K) E) w fun t51 w=>
 GDo t49 true (fun E=>DoX prog (mEq .neq 3 (.tmp 51) (.const (.int .i64 6)) t51 (.int .i64 6)) w (pk K) E) w fun t52 w=>
 GDo t46 false (fun E=>DoX prog (mPick t49 t52 (.bool false)) w (pk K) E) w fun t53 w=>
 DoX prog (mPick t46 (.bool true) t53) w (pk K) fun t54 w=>
 IfX t54 (DoX prog (mLoad 126 t7) w (pk K) fun t55 w=>
 DoX prog (mStore 126 t8 t55) w (pk K) fun _ w=>
 RetX prog [.cell t8 126,.val (.int .i64 24)] w K) (LoopX [(.int .i64 0),(.int .i64 0)] w (fun vs2 w N2=>∀_:Sg,S_foliantref35_step_0 t2 t4 t5 t7 t8 (vs2.getD 0 undef) t10 t24 t13 (vs2.getD 1 undef) w N2 K)))
theorem S_foliantref35_step_eq (t0 t1 t2 t3:Value)(w:World)(K:Ending→World→Prop):wpX prog 144 [] [(7,[9,14]),(21,[9,16])] none (bodyOf Tryz.f68) (topQ prog [.cell 8 126,.tmp 9] K) (startX [t0,t1,t2,t3]) [] w=S_foliantref35_step t0 t1 t2 t3 w K:=by kernel_rfl
theorem S_foliantref35_step_ok {t0 t1 t2 t3:Value}{w:World}{K:Ending→World→Prop}(h:S_foliantref35_step t0 t1 t2 t3 w K):Calls prog 68 #[t0,t1,t2,t3] w K:=
 calls_of_wpX Tryz.func68 rfl rfl rfl rfl (Eq.mpr (S_foliantref35_step_eq t0 t1 t2 t3 w K) h)
def S_foliantref35_Leaves_0 (t5 t6:Value)(w:World)(K:Ending→World→Prop):Prop:=
 DoX prog (mEq .neq 32 (.tmp 20) (.const (.int .i64 0)) t6 (.int .i64 0)) w (pk K) fun t21 w=>
 IfX t21 (K (.returned (.tuple #[(.slice none 0 0),t6])) w) (DoX prog (mFA 126 t5 1) w (pk K) fun t23 w=>
 DoX prog (mLoad 78 t23) w (pk K) fun t24 w=>
 K (.returned (.tuple #[t24,(.int .i64 0)])) w)
def S_foliantref35_Leaves (t0:Value)(w:World)(K:Ending→World→Prop):Prop:=
 DoX prog (mBox 28 t0) w (pk K) fun t1 w=>
 DoX prog (mLoad 28 t1) w (pk K) fun t7 w=>
 CallX prog 49 #[t7] w (pk K) fun t8 w=>
 DoX prog (mEq .neq 32 (.tmp 9) (.const (.int .i64 0)) t8 (.int .i64 0)) w (pk K) fun t10 w=>
 IfX t10 (K (.returned (.tuple #[(.slice none 0 0),t8])) w) (HeldX w (fun S1 w=>
 HDo prog S1 (mLoad 28 t1) fun t13=>
 HDo prog S1 (mLoad 28 t1) fun t14=>
 HDo prog (fun _=>True) (mBuild 126 #[]) fun t16=>
 (CallX prog 69 #[t14] w (pm1 (pm1 (pm1 (pm1 (pm1 (pm1 (pm1 (pk K)))))))) fun t15 w=>
 S1 w∧((CallX prog 68 #[t13,t15,(.slice none 0 0),t16] w (pm1 (pm1 (pm1 (pm1 (pm1 (pm1 (pm1 (pk K)))))))) fun t17 w=>
 S1 w∧(HDo prog (fun _=>True) (mExt t17 0) fun t18=>
 HDo prog (fun _=>True) (mExt t17 1) fun t19=>
 DoX prog (mAlloc 126) w (pm1 (pm1 (pm1 (pm1 (pm1 (pm1 (pm1 (pk K)))))))) fun t5 w=>
 S1 w∧(DoX prog (mStore 126 t5 t18) w (pm1 (pm1 (pm1 (pm1 (pm1 (pm1 (pm1 (pk K)))))))) fun _ w=>
 (S_foliantref35_Leaves_0 t5 t19 w K))))∧(DoX prog (mAlloc 126) w (pm1 (pm1 (pm1 (pm1 (pm1 (pm1 (pm1 (pk K)))))))) fun t5_1 w=>
 S1 w∧(CallX prog 68 #[t13,t15,(.slice none 0 0),t16] w (pm1 (pm1 (pm1 (pm1 (pm1 (pm1 (pm1 (pk K)))))))) fun t17_1 w=>
 S1 w∧(HDo prog (fun _=>True) (mExt t17_1 0) fun t18_1=>
 HDo prog (fun _=>True) (mExt t17_1 1) fun t19_1=>
 DoX prog (mStore 126 t5_1 t18_1) w (pm1 (pm1 (pm1 (pm1 (pm1 (pm1 (pm1 (pk K)))))))) fun _ w=>
 (S_foliantref35_Leaves_0 t5_1 t19_1 w K))))))∧(DoX prog (mAlloc 126) w (pm1 (pm1 (pm1 (pm1 (pm1 (pm1 (pm1 (pk K)))))))) fun t5_2 w=>
 S1 w∧(CallX prog 69 #[t14] w (pm1 (pm1 (pm1 (pm1 (pm1 (pm1 (pm1 (pk K)))))))) fun t15_1 w=>
 S1 w∧(CallX prog 68 #[t13,t15_1,(.slice none 0 0),t16] w (pm1 (pm1 (pm1 (pm1 (pm1 (pm1 (pm1 (pk K)))))))) fun t17_2 w=>
 S1 w∧(HDo prog (fun _=>True) (mExt t17_2 0) fun t18_2=>
 HDo prog (fun _=>True) (mExt t17_2 1) fun t19_2=>
 DoX prog (mStore 126 t5_2 t18_2) w (pm1 (pm1 (pm1 (pm1 (pm1 (pm1 (pm1 (pk K)))))))) fun _ w=>
 (S_foliantref35_Leaves_0 t5_2 t19_2 w K)))))))
theorem S_foliantref35_Leaves_eq (t0:Value)(w:World)(K:Ending→World→Prop):wpX prog 25 [] [] none (bodyOf Tryz.f37) (topQ prog [.tmp 2,.tmp 3] K) (startX [t0]) [] w=S_foliantref35_Leaves t0 w K:=by kernel_rfl
theorem S_foliantref35_Leaves_ok {t0:Value}{w:World}{K:Ending→World→Prop}(h:S_foliantref35_Leaves t0 w K):Calls prog 37 #[t0] w K:=
 calls_of_wpX Tryz.func37 rfl rfl rfl rfl (Eq.mpr (S_foliantref35_Leaves_eq t0 w K) h)
def S_foliantref35_inherited_1 (t6 t7 t8:Value)(w:World)(N1:List Value→World→Prop)(K:Ending→World→Prop):Prop:=
 DoX prog (mFA 26 t8 0) w (pk K) fun t23 w=>
 DoX prog (mLoad 3 t23) w (pk K) fun t24 w=>
 DoX prog (mEq .neq 3 (.tmp 24) (.const (.int .i64 0)) t24 (.int .i64 0)) w (pk K) fun t25 w=>
 IfX t25 (DoX prog (mLoad 26 t8) w (pk K) fun t26 w=>
 DoX prog (mStore 26 t6 t26) w (pk K) fun _ w=>
 RetX prog [.cell t6 26] w K) (DoX prog (mBin .sub 3 t7 (.int .i64 1)) w (pk K) fun t15 w=>
 N1 [t15] w)
def S_foliantref35_inherited_0 (t1 t2 t3 t6 t7:Value)(w:World)(N1:List Value→World→Prop)(K:Ending→World→Prop):Prop:=
 DoX prog (mBin .geq 3 t7 (.int .i64 0)) w (pk K) fun t13 w=>
 IfX t13 (HeldX w (fun S2 w=>
 HDo prog S2 (mLoad 28 t3) fun t16=>
 HDo prog (fun _=>True) (mIA 24 t1 t7) fun t19=>
 HDo prog S2 (mLoad 26 t19) fun t20=>
 (CallX prog 94 #[t16,t20,t2] w (pm1 (pm1 (pm1 (pm1 (pm1 (pm1 (pk K))))))) fun t22 w=>
 (DoX prog (mAlloc 26) w (pm1 (pm1 (pm1 (pm1 (pm1 (pm1 (pk K))))))) fun t8 w=>
 S2 w∧(DoX prog (mStore 26 t8 t22) w (pm1 (pm1 (pm1 (pm1 (pm1 (pm1 (pk K))))))) fun _ w=>
 (S_foliantref35_inherited_1 t6 t7 t8 w N1 K))))∧(DoX prog (mAlloc 26) w (pm1 (pm1 (pm1 (pm1 (pm1 (pm1 (pk K))))))) fun t8_1 w=>
 S2 w∧(CallX prog 94 #[t16,t20,t2] w (pm1 (pm1 (pm1 (pm1 (pm1 (pm1 (pk K))))))) fun t22_1 w=>
 (DoX prog (mStore 26 t8_1 t22_1) w (pm1 (pm1 (pm1 (pm1 (pm1 (pm1 (pk K))))))) fun _ w=>
 (S_foliantref35_inherited_1 t6 t7 t8_1 w N1 K)))))) (CallX prog 97 #[] w (pk K) fun t27 w=>
 DoX prog (mStore 26 t6 t27) w (pk K) fun _ w=>
 RetX prog [.cell t6 26] w K)
def S_foliantref35_inherited (t0 t1 t2:Value)(w:World)(K:Ending→World→Prop):Prop:=
 DoX prog (mBox 28 t0) w (pk K) fun t3 w=>
 DoX prog (mAlloc 26) w (pk K) fun t6 w=>
 DoX prog (mB .len #[24] 3 #[false] #[t1]) w (pk K) fun t10 w=>
 DoX prog (mBin .sub 3 t10 (.int .i64 1)) w (pk K) fun t11 w=>
 LoopX [t11] w (fun vs1 w N1=>∀_:Sg,S_foliantref35_inherited_0 t1 t2 t3 t6 (vs1.getD 0 undef) w N1 K)
theorem S_foliantref35_inherited_eq (t0 t1 t2:Value)(w:World)(K:Ending→World→Prop):wpX prog 28 [] [(2,[7])] none (bodyOf Tryz.f70) (topQ prog [.cell 6 26] K) (startX [t0,t1,t2]) [] w=S_foliantref35_inherited t0 t1 t2 w K:=by kernel_rfl
theorem S_foliantref35_inherited_ok {t0 t1 t2:Value}{w:World}{K:Ending→World→Prop}(h:S_foliantref35_inherited t0 t1 t2 w K):Calls prog 70 #[t0,t1,t2] w K:=
 calls_of_wpX Tryz.func70 rfl rfl rfl rfl (Eq.mpr (S_foliantref35_inherited_eq t0 t1 t2 w K) h)
def S_foliantref35_Rect_0 (t2 t4 t5 t6 t7 t8:Value)(w:World)(N1:List Value→World→Prop)(K:Ending→World→Prop):Prop:=
 DoX prog (mBin .lss 3 t8 (.int .i64 4)) w (pk K) fun t25 w=>
 IfX t25 (QuietX w (fun C2=>
 QDo prog C2 (mLoad 28 t2) fun t29=>
 QDo prog C2 (mFA 26 t6 5) fun t30=>
 QDo prog C2 (mLoad 24 t30) fun t31=>
 QDo prog C2 (mIA 24 t31 t8) fun t33=>
 QDo prog C2 (mLoad 26 t33) fun t34=>
 QCall prog C2 41 #[t29,t34] fun t35=>
 QCall prog C2 42 #[t35] fun t36=>
 QDo prog C2 (mExt t36 0) fun t37=>
 QDo prog C2 (mExt t36 1) fun t38=>
 ∀w,C2 w →
 DoX prog (mUn .not t38) w (pk K) fun t40 w=>
 IfX t40 (DoX prog (mBuild 43 #[]) w (pk K) fun t41 w=>
 DoX prog (mStore 43 t4 t41) w (pk K) fun _ w=>
 RetX prog [.cell t4 43,.val (.int .i64 3)] w K) (DoX prog (mIA 85 t7 t8) w (pk K) fun t44 w=>
 DoX prog (mStore 2 t44 t37) w (pk K) fun _ w=>
 DoX prog (mBin .add 3 t8 (.int .i64 1)) w (pk K) fun t27 w=>
 N1 [t5,t27] w))) (DoX prog (mIA 85 t7 (.int .i64 0)) w (pk K) fun t45 w=>
 DoX prog (mLoad 2 t45) w (pk K) fun t46 w=>
 DoX prog (mIA 85 t7 (.int .i64 2)) w (pk K) fun t47 w=>
 DoX prog (mLoad 2 t47) w (pk K) fun t48 w=>
 DoX prog (mB .min #[2,2] 2 #[false,false] #[t46,t48]) w (pk K) fun t49 w=>
 DoX prog (mIA 85 t7 (.int .i64 1)) w (pk K) fun t50 w=>
 DoX prog (mLoad 2 t50) w (pk K) fun t51 w=>
 DoX prog (mIA 85 t7 (.int .i64 3)) w (pk K) fun t52 w=>
 DoX prog (mLoad 2 t52) w (pk K) fun t53 w=>
 DoX prog (mB .min #[2,2] 2 #[false,false] #[t51,t53]) w (pk K) fun t54 w=>
 DoX prog (mIA 85 t7 (.int .i64 0)) w (pk K) fun t55 w=>
 DoX prog (mLoad 2 t55) w (pk K) fun t56 w=>
 DoX prog (mIA 85 t7 (.int .i64 2)) w (pk K) fun t57 w=>
 DoX prog (mLoad 2 t57) w (pk K) fun t58 w=>
 DoX prog (mB .max #[2,2] 2 #[false,false] #[t56,t58]) w (pk K) fun t59 w=>
 DoX prog (mIA 85 t7 (.int .i64 1)) w (pk K) fun t60 w=>
 DoX prog (mLoad 2 t60) w (pk K) fun t61 w=>
 DoX prog (mIA 85 t7 (.int .i64 3)) w (pk K) fun t62 w=>
 DoX prog (mLoad 2 t62) w (pk K) fun t63 w=>
 DoX prog (mB .max #[2,2] 2 #[false,false] #[t61,t63]) w (pk K) fun t64 w=>
 DoX prog (mBuild 43 #[(0,t49),(1,t54),(2,t59),(3,t64)]) w (pk K) fun t65 w=>
 DoX prog (mStore 43 t4 t65) w (pk K) fun _ w=>
 RetX prog [.cell t4 43,.val (.int .i64 0)] w K)
def S_foliantref35_Rect (t0 t1:Value)(w:World)(K:Ending→World→Prop):Prop:=
 DoX prog (mBox 28 t0) w (pk K) fun t2 w=>
 DoX prog (mBox 26 t1) w (pk K) fun t3 w=>
 DoX prog (mAlloc 43) w (pk K) fun t4 w=>
 DoX prog (mLoad 28 t2) w (pk K) fun t11 w=>
 DoX prog (mLoad 26 t3) w (pk K) fun t12 w=>
 CallX prog 41 #[t11,t12] w (pk K) fun t13 w=>
 DoX prog (mAlloc 26) w (pk K) fun t6 w=>
 DoX prog (mStore 26 t6 t13) w (pk K) fun _ w=>
 DoX prog (mFA 26 t6 0) w (pk K) fun t14 w=>
 DoX prog (mLoad 3 t14) w (pk K) fun t15 w=>
 DoX prog (mEq .neq 3 (.tmp 15) (.const (.int .i64 6)) t15 (.int .i64 6)) w (pk K) fun t16 w=>
 GDo t16 false (fun E=>DoX prog (mFA 26 t6 5) w (pk K) E) w fun t18 w=>
 GDo t16 false (fun E=>DoX prog (mLoad 24 t18) w (pk K) E) w fun t19 w=>
 GDo t16 false (fun E=>DoX prog (mB .len #[24] 3 #[false] #[t19]) w (pk K) E) w fun t20 w=>
 GDo t16 false (fun E=>DoX prog (mEq .neq 3 (.tmp 20) (.const (.int .i64 4)) t20 (.int .i64 4)) w (pk K) E) w fun t21 w=>
 DoX prog (mPick t16 (.bool true) t21) w (pk K) fun t22 w=>
 IfX t22 (DoX prog (mBuild 43 #[]) w (pk K) fun t23 w=>
 DoX prog (mStore 43 t4 t23) w (pk K) fun _ w=>
 RetX prog [.cell t4 43,.val (.int .i64 3)] w K) (DoX prog (mAlloc 85) w (pk K) fun t7 w=>
 LoopX [(.int .i64 0),(.int .i64 0)] w (fun vs1 w N1=>∀_:Sg,S_foliantref35_Rect_0 t2 t4 (vs1.getD 0 undef) t6 t7 (vs1.getD 1 undef) w N1 K))
theorem S_foliantref35_Rect_eq (t0 t1:Value)(w:World)(K:Ending→World→Prop):wpX prog 66 [] [(6,[5,8])] none (bodyOf Tryz.f19) (topQ prog [.cell 4 43,.tmp 5] K) (startX [t0,t1]) [] w=S_foliantref35_Rect t0 t1 w K:=by kernel_rfl
theorem S_foliantref35_Rect_ok {t0 t1:Value}{w:World}{K:Ending→World→Prop}(h:S_foliantref35_Rect t0 t1 w K):Calls prog 19 #[t0,t1] w K:=
 calls_of_wpX Tryz.func19 rfl rfl rfl rfl (Eq.mpr (S_foliantref35_Rect_eq t0 t1 w K) h)
def S_foliantref35_cut (t0 t1:Value)(w:World)(K:Ending→World→Prop):Prop:=
 DoX prog (mBox 43 t0) w (pk K) fun t2 w=>
 DoX prog (mBox 43 t1) w (pk K) fun t3 w=>
 DoX prog (mAlloc 43) w (pk K) fun t4 w=>
 DoX prog (mFA 43 t2 0) w (pk K) fun t7 w=>
 DoX prog (mLoad 2 t7) w (pk K) fun t8 w=>
 DoX prog (mFA 43 t3 0) w (pk K) fun t9 w=>
 DoX prog (mLoad 2 t9) w (pk K) fun t10 w=>
 DoX prog (mB .max #[2,2] 2 #[false,false] #[t8,t10]) w (pk K) fun t11 w=>
 DoX prog (mFA 43 t2 1) w (pk K) fun t12 w=>
 DoX prog (mLoad 2 t12) w (pk K) fun t13 w=>
 DoX prog (mFA 43 t3 1) w (pk K) fun t14 w=>
 DoX prog (mLoad 2 t14) w (pk K) fun t15 w=>
 DoX prog (mB .max #[2,2] 2 #[false,false] #[t13,t15]) w (pk K) fun t16 w=>
 DoX prog (mFA 43 t2 2) w (pk K) fun t17 w=>
 DoX prog (mLoad 2 t17) w (pk K) fun t18 w=>
 DoX prog (mFA 43 t3 2) w (pk K) fun t19 w=>
 DoX prog (mLoad 2 t19) w (pk K) fun t20 w=>
 DoX prog (mB .min #[2,2] 2 #[false,false] #[t18,t20]) w (pk K) fun t21 w=>
 DoX prog (mFA 43 t2 3) w (pk K) fun t22 w=>
 DoX prog (mLoad 2 t22) w (pk K) fun t23 w=>
 DoX prog (mFA 43 t3 3) w (pk K) fun t24 w=>
 DoX prog (mLoad 2 t24) w (pk K) fun t25 w=>
 DoX prog (mB .min #[2,2] 2 #[false,false] #[t23,t25]) w (pk K) fun t26 w=>
 DoX prog (mBuild 43 #[(0,t11),(1,t16),(2,t21),(3,t26)]) w (pk K) fun t27 w=>
 DoX prog (mAlloc 43) w (pk K) fun t6 w=>
 DoX prog (mStore 43 t6 t27) w (pk K) fun _ w=>
 HeldX w (fun S1 w=>
 HDo prog S1 (mLoad 43 t6) fun t28=>
 HDo prog (fun _=>True) (mFA 43 t6 0) fun t29=>
 HDo prog S1 (mLoad 2 t29) fun t30=>
 HDo prog (fun _=>True) (mFA 43 t6 2) fun t31=>
 HDo prog S1 (mLoad 2 t31) fun t32=>
 HDo prog (fun _=>True) (mBin .lss 2 t30 t32) fun t33=>
 GQ t33 true (fun E=>HDo prog (fun _=>True) (mFA 43 t6 1) E) fun t35=>
 GQ t33 true (fun E=>HDo prog S1 (mLoad 2 t35) E) fun t36=>
 GQ t33 true (fun E=>HDo prog (fun _=>True) (mFA 43 t6 3) E) fun t37=>
 GQ t33 true (fun E=>HDo prog S1 (mLoad 2 t37) E) fun t38=>
 GQ t33 true (fun E=>HDo prog (fun _=>True) (mBin .lss 2 t36 t38) E) fun t39=>
 HDo prog (fun _=>True) (mPick t33 t39 (.bool false)) fun t40=>
 DoX prog (mStore 43 t4 t28) w (pm1 (pm1 (pm1 (pm1 (pm1 (pm1 (pm1 (pm1 (pm1 (pm1 (pm1 (pm1 (pm1 (pm1 (pk K))))))))))))))) fun _ w=>
 S1 w∧(RetX prog [.cell t4 43,.val t40] w K))
theorem S_foliantref35_cut_eq (t0 t1:Value)(w:World)(K:Ending→World→Prop):wpX prog 41 [] [] none (bodyOf Tryz.f71) (topQ prog [.cell 4 43,.tmp 5] K) (startX [t0,t1]) [] w=S_foliantref35_cut t0 t1 w K:=by kernel_rfl
theorem S_foliantref35_cut_ok {t0 t1:Value}{w:World}{K:Ending→World→Prop}(h:S_foliantref35_cut t0 t1 w K):Calls prog 71 #[t0,t1] w K:=
 calls_of_wpX Tryz.func71 rfl rfl rfl rfl (Eq.mpr (S_foliantref35_cut_eq t0 t1 w K) h)
def S_foliantref35_Page_3 (t4 t8:Value)(w:World)(K:Ending→World→Prop):Prop:=
 DoX prog (mLoad 48 t8) w (pk K) fun t95 w=>
 DoX prog (mStore 48 t4 t95) w (pk K) fun _ w=>
 RetX prog [.cell t4 48,.val (.int .i64 0)] w K
def S_foliantref35_Page_2 (t2 t3 t4 t5 t8:Value)(w:World)(K:Ending→World→Prop):Prop:=
 JoinX (fun J4=>
 DoX prog (mLoad 28 t2) w (pk K) fun t82 w=>
 DoX prog (mFA 83 t3 1) w (pk K) fun t83 w=>
 DoX prog (mLoad 24 t83) w (pk K) fun t84 w=>
 CallX prog 70 #[t82,t84,(.string ⟨#[82,101,115,111,117,114,99,101,115]⟩)] w (pk K) fun t85 w=>
 DoX prog (mAlloc 26) w (pk K) fun t15 w=>
 DoX prog (mStore 26 t15 t85) w (pk K) fun _ w=>
 DoX prog (mFA 26 t15 0) w (pk K) fun t86 w=>
 DoX prog (mLoad 3 t86) w (pk K) fun t87 w=>
 DoX prog (mEq .neq 3 (.tmp 87) (.const (.int .i64 0)) t87 (.int .i64 0)) w (pk K) fun t88 w=>
 IfX t88 (DoX prog (mFA 26 t15 0) w (pk K) fun t89 w=>
 DoX prog (mLoad 3 t89) w (pk K) fun t90 w=>
 DoX prog (mEq .neq 3 (.tmp 90) (.const (.int .i64 7)) t90 (.int .i64 7)) w (pk K) fun t91 w=>
 IfX t91 (DoX prog (mBuild 48 #[]) w (pk K) fun t92 w=>
 DoX prog (mStore 48 t4 t92) w (pk K) fun _ w=>
 RetX prog [.cell t4 48,.val (.int .i64 24)] w K) (DoX prog (mLoad 26 t15) w (pk K) fun t93 w=>
 DoX prog (mFA 48 t8 4) w (pk K) fun t94 w=>
 DoX prog (mStore 26 t94 t93) w (pk K) fun _ w=>
 J4 [t5] w)) (J4 [t5] w)) (fun vs4 w=>∀_:Sg,S_foliantref35_Page_3 t4 t8 w K)
def S_foliantref35_Page_1 (t2 t3 t4 t5 t8:Value)(w:World)(K:Ending→World→Prop):Prop:=
 JoinX (fun J3=>
 DoX prog (mLoad 28 t2) w (pk K) fun t59 w=>
 DoX prog (mFA 83 t3 1) w (pk K) fun t60 w=>
 DoX prog (mLoad 24 t60) w (pk K) fun t61 w=>
 CallX prog 70 #[t59,t61,(.string ⟨#[82,111,116,97,116,101]⟩)] w (pk K) fun t62 w=>
 DoX prog (mAlloc 26) w (pk K) fun t14 w=>
 DoX prog (mStore 26 t14 t62) w (pk K) fun _ w=>
 DoX prog (mFA 26 t14 0) w (pk K) fun t63 w=>
 DoX prog (mLoad 3 t63) w (pk K) fun t64 w=>
 DoX prog (mEq .neq 3 (.tmp 64) (.const (.int .i64 0)) t64 (.int .i64 0)) w (pk K) fun t65 w=>
 IfX t65 (DoX prog (mFA 26 t14 0) w (pk K) fun t66 w=>
 DoX prog (mLoad 3 t66) w (pk K) fun t67 w=>
 DoX prog (mEq .neq 3 (.tmp 67) (.const (.int .i64 2)) t67 (.int .i64 2)) w (pk K) fun t68 w=>
 GDo t68 false (fun E=>DoX prog (mFA 26 t14 1) w (pk K) E) w fun t70 w=>
 GDo t68 false (fun E=>DoX prog (mLoad 2 t70) w (pk K) E) w fun t71 w=>
 GDo t68 false (fun E=>DoX prog (mBin .rem 2 t71 (.int .i64 90)) w (pk K) E) w fun t72 w=>
 GDo t68 false (fun E=>DoX prog (mEq .neq 2 (.tmp 72) (.const (.int .i64 0)) t72 (.int .i64 0)) w (pk K) E) w fun t73 w=>
 DoX prog (mPick t68 (.bool true) t73) w (pk K) fun t74 w=>
 IfX t74 (DoX prog (mBuild 48 #[]) w (pk K) fun t75 w=>
 DoX prog (mStore 48 t4 t75) w (pk K) fun _ w=>
 RetX prog [.cell t4 48,.val (.int .i64 24)] w K) (DoX prog (mFA 26 t14 1) w (pk K) fun t76 w=>
 DoX prog (mLoad 2 t76) w (pk K) fun t77 w=>
 DoX prog (mBin .rem 2 t77 (.int .i64 360)) w (pk K) fun t78 w=>
 DoX prog (mBin .add 2 t78 (.int .i64 360)) w (pk K) fun t79 w=>
 DoX prog (mBin .rem 2 t79 (.int .i64 360)) w (pk K) fun t80 w=>
 DoX prog (mFA 48 t8 3) w (pk K) fun t81 w=>
 DoX prog (mStore 3 t81 t80) w (pk K) fun _ w=>
 J3 [t5] w)) (J3 [t5] w)) (fun vs3 w=>∀_:Sg,S_foliantref35_Page_2 t2 t3 t4 (vs3.getD 0 undef) t8 w K)
def S_foliantref35_Page_0 (t2 t3 t4 t5 t6 t7:Value)(w:World)(K:Ending→World→Prop):Prop:=
 DoX prog (mEq .neq 32 (.tmp 25) (.const (.int .i64 0)) t7 (.int .i64 0)) w (pk K) fun t26 w=>
 IfX t26 (DoX prog (mBuild 48 #[]) w (pk K) fun t27 w=>
 DoX prog (mStore 48 t4 t27) w (pk K) fun _ w=>
 RetX prog [.cell t4 48,.val (.int .i64 24)] w K) (DoX prog (mFA 83 t3 0) w (pk K) fun t28 w=>
 DoX prog (mLoad 3 t28) w (pk K) fun t29 w=>
 DoX prog (mLoad 43 t6) w (pk K) fun t30 w=>
 DoX prog (mLoad 43 t6) w (pk K) fun t31 w=>
 DoX prog (mBuild 26 #[(0,(.int .i64 7))]) w (pk K) fun t32 w=>
 DoX prog (mBuild 48 #[(0,t29),(1,t30),(2,t31),(4,t32)]) w (pk K) fun t33 w=>
 DoX prog (mAlloc 48) w (pk K) fun t8 w=>
 DoX prog (mStore 48 t8 t33) w (pk K) fun _ w=>
 JoinX (fun J2=>
 DoX prog (mLoad 28 t2) w (pk K) fun t34 w=>
 DoX prog (mFA 83 t3 1) w (pk K) fun t35 w=>
 DoX prog (mLoad 24 t35) w (pk K) fun t36 w=>
 CallX prog 70 #[t34,t36,(.string ⟨#[67,114,111,112,66,111,120]⟩)] w (pk K) fun t37 w=>
 DoX prog (mAlloc 26) w (pk K) fun t9 w=>
 DoX prog (mStore 26 t9 t37) w (pk K) fun _ w=>
 DoX prog (mFA 26 t9 0) w (pk K) fun t38 w=>
 DoX prog (mLoad 3 t38) w (pk K) fun t39 w=>
 DoX prog (mEq .neq 3 (.tmp 39) (.const (.int .i64 0)) t39 (.int .i64 0)) w (pk K) fun t40 w=>
 IfX t40 (DoX prog (mLoad 28 t2) w (pk K) fun t42 w=>
 DoX prog (mLoad 26 t9) w (pk K) fun t43 w=>
 CallX prog 19 #[t42,t43] w (pk K) fun t44 w=>
 DoX prog (mExt t44 0) w (pk K) fun t45 w=>
 DoX prog (mExt t44 1) w (pk K) fun t46 w=>
 DoX prog (mAlloc 43) w (pk K) fun t10 w=>
 DoX prog (mStore 43 t10 t45) w (pk K) fun _ w=>
 DoX prog (mEq .neq 32 (.tmp 47) (.const (.int .i64 0)) t46 (.int .i64 0)) w (pk K) fun t48 w=>
 IfX t48 (DoX prog (mBuild 48 #[]) w (pk K) fun t49 w=>
 DoX prog (mStore 48 t4 t49) w (pk K) fun _ w=>
 RetX prog [.cell t4 48,.val (.int .i64 24)] w K) (DoX prog (mLoad 43 t10) w (pk K) fun t51 w=>
 DoX prog (mLoad 43 t6) w (pk K) fun t52 w=>
 CallX prog 71 #[t51,t52] w (pk K) fun t53 w=>
 DoX prog (mExt t53 0) w (pk K) fun t54 w=>
 DoX prog (mExt t53 1) w (pk K) fun t55 w=>
 DoX prog (mAlloc 43) w (pk K) fun t12 w=>
 DoX prog (mStore 43 t12 t54) w (pk K) fun _ w=>
 IfX t55 (DoX prog (mLoad 43 t12) w (pk K) fun t57 w=>
 DoX prog (mFA 48 t8 2) w (pk K) fun t58 w=>
 DoX prog (mStore 43 t58 t57) w (pk K) fun _ w=>
 J2 [t5] w) (J2 [t5] w))) (J2 [t5] w)) (fun vs2 w=>∀_:Sg,S_foliantref35_Page_1 t2 t3 t4 (vs2.getD 0 undef) t8 w K))
def S_foliantref35_Page (t0 t1:Value)(w:World)(K:Ending→World→Prop):Prop:=
 DoX prog (mBox 28 t0) w (pk K) fun t2 w=>
 DoX prog (mBox 83 t1) w (pk K) fun t3 w=>
 DoX prog (mAlloc 48) w (pk K) fun t4 w=>
 HeldX w (fun S1 w=>
 HDo prog S1 (mLoad 28 t2) fun t17=>
 HDo prog S1 (mLoad 28 t2) fun t18=>
 HDo prog (fun _=>True) (mFA 83 t3 1) fun t19=>
 HDo prog S1 (mLoad 24 t19) fun t20=>
 (CallX prog 70 #[t18,t20,(.string ⟨#[77,101,100,105,97,66,111,120]⟩)] w (pm1 (pm1 (pm1 (pm1 (pm1 (pm1 (pm1 (pm1 (pk K))))))))) fun t21 w=>
 S1 w∧((CallX prog 19 #[t17,t21] w (pm1 (pm1 (pm1 (pm1 (pm1 (pm1 (pm1 (pm1 (pk K))))))))) fun t22 w=>
 S1 w∧(HDo prog (fun _=>True) (mExt t22 0) fun t23=>
 HDo prog (fun _=>True) (mExt t22 1) fun t24=>
 DoX prog (mAlloc 43) w (pm1 (pm1 (pm1 (pm1 (pm1 (pm1 (pm1 (pm1 (pk K))))))))) fun t6 w=>
 S1 w∧(DoX prog (mStore 43 t6 t23) w (pm1 (pm1 (pm1 (pm1 (pm1 (pm1 (pm1 (pm1 (pk K))))))))) fun _ w=>
 (S_foliantref35_Page_0 t2 t3 t4 (.int .i64 0) t6 t24 w K))))∧(DoX prog (mAlloc 43) w (pm1 (pm1 (pm1 (pm1 (pm1 (pm1 (pm1 (pm1 (pk K))))))))) fun t6_1 w=>
 S1 w∧(CallX prog 19 #[t17,t21] w (pm1 (pm1 (pm1 (pm1 (pm1 (pm1 (pm1 (pm1 (pk K))))))))) fun t22_1 w=>
 S1 w∧(HDo prog (fun _=>True) (mExt t22_1 0) fun t23_1=>
 HDo prog (fun _=>True) (mExt t22_1 1) fun t24_1=>
 DoX prog (mStore 43 t6_1 t23_1) w (pm1 (pm1 (pm1 (pm1 (pm1 (pm1 (pm1 (pm1 (pk K))))))))) fun _ w=>
 (S_foliantref35_Page_0 t2 t3 t4 (.int .i64 0) t6_1 t24_1 w K))))))∧(DoX prog (mAlloc 43) w (pm1 (pm1 (pm1 (pm1 (pm1 (pm1 (pm1 (pm1 (pk K))))))))) fun t6_2 w=>
 S1 w∧(CallX prog 70 #[t18,t20,(.string ⟨#[77,101,100,105,97,66,111,120]⟩)] w (pm1 (pm1 (pm1 (pm1 (pm1 (pm1 (pm1 (pm1 (pk K))))))))) fun t21_1 w=>
 S1 w∧(CallX prog 19 #[t17,t21_1] w (pm1 (pm1 (pm1 (pm1 (pm1 (pm1 (pm1 (pm1 (pk K))))))))) fun t22_2 w=>
 S1 w∧(HDo prog (fun _=>True) (mExt t22_2 0) fun t23_2=>
 HDo prog (fun _=>True) (mExt t22_2 1) fun t24_2=>
 DoX prog (mStore 43 t6_2 t23_2) w (pm1 (pm1 (pm1 (pm1 (pm1 (pm1 (pm1 (pm1 (pk K))))))))) fun _ w=>
 (S_foliantref35_Page_0 t2 t3 t4 (.int .i64 0) t6_2 t24_2 w K))))))
theorem S_foliantref35_Page_eq (t0 t1:Value)(w:World)(K:Ending→World→Prop):wpX prog 96 [(13,[5]),(18,[5]),(23,[5])] [] none (bodyOf Tryz.f38) (topQ prog [.cell 4 48,.tmp 5] K) (startX [t0,t1]) [] w=S_foliantref35_Page t0 t1 w K:=by kernel_rfl
theorem S_foliantref35_Page_ok {t0 t1:Value}{w:World}{K:Ending→World→Prop}(h:S_foliantref35_Page t0 t1 w K):Calls prog 38 #[t0,t1] w K:=
 calls_of_wpX Tryz.func38 rfl rfl rfl rfl (Eq.mpr (S_foliantref35_Page_eq t0 t1 w K) h)
def S_foliantref35_List_1 (t6 t7 t8 t9:Value)(w:World)(N1:List Value→World→Prop)(K:Ending→World→Prop):Prop:=
 DoX prog (mEq .neq 32 (.tmp 33) (.const (.int .i64 0)) t9 (.int .i64 0)) w (pk K) fun t34 w=>
 IfX t34 (K (.returned (.tuple #[(.slice none 0 0),t9])) w) (DoX prog (mLoad 48 t8) w (pk K) fun t37 w=>
 DoX prog (mBuildS 31 1 #[(0,t37)]) w (pk K) fun t38 w=>
 DoX prog (mB .append #[31,31] 31 #[false,false] #[t6,t38]) w (pk K) fun t39 w=>
 DoX prog (mBin .add 3 t7 (.int .i64 1)) w (pk K) fun t23 w=>
 N1 [t39,t23] w)
def S_foliantref35_List_0 (t1 t4 t6 t7:Value)(w:World)(N1:List Value→World→Prop)(K:Ending→World→Prop):Prop:=
 DoX prog (mB .len #[78] 3 #[false] #[t4]) w (pk K) fun t20 w=>
 DoX prog (mBin .lss 3 t7 t20) w (pk K) fun t21 w=>
 IfX t21 (HeldX w (fun S2 w=>
 HDo prog S2 (mLoad 28 t1) fun t25=>
 HDo prog (fun _=>True) (mIA 78 t4 t7) fun t28=>
 HDo prog S2 (mLoad 83 t28) fun t29=>
 (CallX prog 38 #[t25,t29] w (pm1 (pm1 (pm1 (pm1 (pm1 (pm1 (pm1 (pm1 (pm1 (pk K)))))))))) fun t30 w=>
 (HDo prog (fun _=>True) (mExt t30 0) fun t31=>
 HDo prog (fun _=>True) (mExt t30 1) fun t32=>
 DoX prog (mAlloc 48) w (pm1 (pm1 (pm1 (pm1 (pm1 (pm1 (pm1 (pm1 (pm1 (pk K)))))))))) fun t8 w=>
 S2 w∧(DoX prog (mStore 48 t8 t31) w (pm1 (pm1 (pm1 (pm1 (pm1 (pm1 (pm1 (pm1 (pm1 (pk K)))))))))) fun _ w=>
 (S_foliantref35_List_1 t6 t7 t8 t32 w N1 K))))∧(DoX prog (mAlloc 48) w (pm1 (pm1 (pm1 (pm1 (pm1 (pm1 (pm1 (pm1 (pm1 (pk K)))))))))) fun t8_1 w=>
 S2 w∧(CallX prog 38 #[t25,t29] w (pm1 (pm1 (pm1 (pm1 (pm1 (pm1 (pm1 (pm1 (pm1 (pk K)))))))))) fun t30_1 w=>
 (HDo prog (fun _=>True) (mExt t30_1 0) fun t31_1=>
 HDo prog (fun _=>True) (mExt t30_1 1) fun t32_1=>
 DoX prog (mStore 48 t8_1 t31_1) w (pm1 (pm1 (pm1 (pm1 (pm1 (pm1 (pm1 (pm1 (pm1 (pk K)))))))))) fun _ w=>
 (S_foliantref35_List_1 t6 t7 t8_1 t32_1 w N1 K)))))) (K (.returned (.tuple #[t6,(.int .i64 0)])) w)
def S_foliantref35_List (t0:Value)(w:World)(K:Ending→World→Prop):Prop:=
 DoX prog (mBox 28 t0) w (pk K) fun t1 w=>
 DoX prog (mLoad 28 t1) w (pk K) fun t11 w=>
 CallX prog 37 #[t11] w (pk K) fun t12 w=>
 DoX prog (mExt t12 0) w (pk K) fun t13 w=>
 DoX prog (mExt t12 1) w (pk K) fun t14 w=>
 DoX prog (mEq .neq 32 (.tmp 15) (.const (.int .i64 0)) t14 (.int .i64 0)) w (pk K) fun t16 w=>
 IfX t16 (K (.returned (.tuple #[(.slice none 0 0),t14])) w) (LoopX [(.slice none 0 0),(.int .i64 0)] w (fun vs1 w N1=>∀_:Sg,S_foliantref35_List_0 t1 t13 (vs1.getD 0 undef) (vs1.getD 1 undef) w N1 K))
theorem S_foliantref35_List_eq (t0:Value)(w:World)(K:Ending→World→Prop):wpX prog 41 [] [(6,[6,7])] none (bodyOf Tryz.f11) (topQ prog [.tmp 2,.tmp 3] K) (startX [t0]) [] w=S_foliantref35_List t0 w K:=by kernel_rfl
theorem S_foliantref35_List_ok {t0:Value}{w:World}{K:Ending→World→Prop}(h:S_foliantref35_List t0 w K):Calls prog 11 #[t0] w K:=
 calls_of_wpX Tryz.func11 rfl rfl rfl rfl (Eq.mpr (S_foliantref35_List_eq t0 w K) h)
def S_foliantref35_Count (t0:Value)(w:World)(K:Ending→World→Prop):Prop:=
 DoX prog (mBox 28 t0) w (pk K) fun t1 w=>
 DoX prog (mLoad 28 t1) w (pk K) fun t7 w=>
 CallX prog 37 #[t7] w (pk K) fun t8 w=>
 DoX prog (mExt t8 0) w (pk K) fun t9 w=>
 DoX prog (mExt t8 1) w (pk K) fun t10 w=>
 DoX prog (mB .len #[78] 3 #[false] #[t9]) w (pk K) fun t12 w=>
 K (.returned (.tuple #[t12,t10])) w
theorem S_foliantref35_Count_eq (t0:Value)(w:World)(K:Ending→World→Prop):wpX prog 14 [] [] none (bodyOf Tryz.f13) (topQ prog [.tmp 2,.tmp 3] K) (startX [t0]) [] w=S_foliantref35_Count t0 w K:=by kernel_rfl
theorem S_foliantref35_Count_ok {t0:Value}{w:World}{K:Ending→World→Prop}(h:S_foliantref35_Count t0 w K):Calls prog 13 #[t0] w K:=
 calls_of_wpX Tryz.func13 rfl rfl rfl rfl (Eq.mpr (S_foliantref35_Count_eq t0 w K) h)
def S_foliantref35_Place_0 (t1 t6 t8:Value)(w:World)(N1:List Value→World→Prop)(K:Ending→World→Prop):Prop:=
 DoX prog (mB .len #[78] 3 #[false] #[t6]) w (pk K) fun t16 w=>
 DoX prog (mBin .lss 3 t8 t16) w (pk K) fun t17 w=>
 IfX t17 (DoX prog (mIA 78 t6 t8) w (pk K) fun t22 w=>
 DoX prog (mFA 83 t22 0) w (pk K) fun t23 w=>
 DoX prog (mLoad 3 t23) w (pk K) fun t24 w=>
 DoX prog (mEq .eql 3 (.tmp 24) (.tmp 25) t24 t1) w (pk K) fun t26 w=>
 IfX t26 (K (.returned (.tuple #[t8,(.bool true)])) w) (DoX prog (mBin .add 3 t8 (.int .i64 1)) w (pk K) fun t19 w=>
 N1 [t19] w)) (K (.returned (.tuple #[(.int .i64 0),(.bool false)])) w)
def S_foliantref35_Place (t0 t1:Value)(w:World)(K:Ending→World→Prop):Prop:=
 DoX prog (mBox 28 t0) w (pk K) fun t2 w=>
 DoX prog (mLoad 28 t2) w (pk K) fun t10 w=>
 CallX prog 37 #[t10] w (pk K) fun t11 w=>
 DoX prog (mExt t11 0) w (pk K) fun t12 w=>
 DoX prog (mExt t11 1) w (pk K) fun t13 w=>
 LoopX [(.int .i64 0)] w (fun vs1 w N1=>∀_:Sg,S_foliantref35_Place_0 t1 t12 (vs1.getD 0 undef) w N1 K)
theorem S_foliantref35_Place_eq (t0 t1:Value)(w:World)(K:Ending→World→Prop):wpX prog 28 [] [(3,[8])] none (bodyOf Tryz.f15) (topQ prog [.tmp 4,.tmp 5] K) (startX [t0,t1]) [] w=S_foliantref35_Place t0 t1 w K:=by kernel_rfl
theorem S_foliantref35_Place_ok {t0 t1:Value}{w:World}{K:Ending→World→Prop}(h:S_foliantref35_Place t0 t1 w K):Calls prog 15 #[t0,t1] w K:=
 calls_of_wpX Tryz.func15 rfl rfl rfl rfl (Eq.mpr (S_foliantref35_Place_eq t0 t1 w K) h)
def S_foliantref35_SamePage (t0 t1:Value)(w:World)(K:Ending→World→Prop):Prop:=
 DoX prog (mBox 48 t0) w (pk K) fun t2 w=>
 DoX prog (mBox 48 t1) w (pk K) fun t3 w=>
 DoX prog (mFA 48 t2 0) w (pk K) fun t5 w=>
 DoX prog (mLoad 3 t5) w (pk K) fun t6 w=>
 DoX prog (mFA 48 t3 0) w (pk K) fun t7 w=>
 DoX prog (mLoad 3 t7) w (pk K) fun t8 w=>
 DoX prog (mEq .eql 3 (.tmp 6) (.tmp 8) t6 t8) w (pk K) fun t9 w=>
 GDo t9 true (fun E=>DoX prog (mFA 48 t2 1) w (pk K) E) w fun t11 w=>
 GDo t9 true (fun E=>DoX prog (mLoad 43 t11) w (pk K) E) w fun t12 w=>
 GDo t9 true (fun E=>DoX prog (mFA 48 t3 1) w (pk K) E) w fun t13 w=>
 GDo t9 true (fun E=>DoX prog (mLoad 43 t13) w (pk K) E) w fun t14 w=>
 GDo t9 true (fun E=>DoX prog (mEq .eql 43 (.tmp 12) (.tmp 14) t12 t14) w (pk K) E) w fun t15 w=>
 DoX prog (mPick t9 t15 (.bool false)) w (pk K) fun t16 w=>
 GDo t16 true (fun E=>DoX prog (mFA 48 t2 2) w (pk K) E) w fun t18 w=>
 GDo t16 true (fun E=>DoX prog (mLoad 43 t18) w (pk K) E) w fun t19 w=>
 GDo t16 true (fun E=>DoX prog (mFA 48 t3 2) w (pk K) E) w fun t20 w=>
 GDo t16 true (fun E=>DoX prog (mLoad 43 t20) w (pk K) E) w fun t21 w=>
 GDo t16 true (fun E=>DoX prog (mEq .eql 43 (.tmp 19) (.tmp 21) t19 t21) w (pk K) E) w fun t22 w=>
 DoX prog (mPick t16 t22 (.bool false)) w (pk K) fun t23 w=>
 GDo t23 true (fun E=>DoX prog (mFA 48 t2 3) w (pk K) E) w fun t25 w=>
 GDo t23 true (fun E=>DoX prog (mLoad 3 t25) w (pk K) E) w fun t26 w=>
 GDo t23 true (fun E=>DoX prog (mFA 48 t3 3) w (pk K) E) w fun t27 w=>
 GDo t23 true (fun E=>DoX prog (mLoad 3 t27) w (pk K) E) w fun t28 w=>
 GDo t23 true (fun E=>DoX prog (mEq .eql 3 (.tmp 26) (.tmp 28) t26 t28) w (pk K) E) w fun t29 w=>
 DoX prog (mPick t23 t29 (.bool false)) w (pk K) fun t30 w=>
 GDo t30 true (fun E=>DoX prog (mFA 48 t2 4) w (pk K) E) w fun t32 w=>
 GDo t30 true (fun E=>DoX prog (mLoad 26 t32) w (pk K) E) w fun t33 w=>
 GDo t30 true (fun E=>DoX prog (mFA 48 t3 4) w (pk K) E) w fun t34 w=>
 GDo t30 true (fun E=>DoX prog (mLoad 26 t34) w (pk K) E) w fun t35 w=>
 GDo t30 true (fun E=>CallX prog 44 #[t33,t35] w (pk K) E) w fun t36 w=>
 DoX prog (mPick t30 t36 (.bool false)) w (pk K) fun t37 w=>
 K (.returned t37) w
theorem S_foliantref35_SamePage_eq (t0 t1:Value)(w:World)(K:Ending→World→Prop):wpX prog 38 [] [] none (bodyOf Tryz.f21) (topQ prog [.tmp 4] K) (startX [t0,t1]) [] w=S_foliantref35_SamePage t0 t1 w K:=by kernel_rfl
theorem S_foliantref35_SamePage_ok {t0 t1:Value}{w:World}{K:Ending→World→Prop}(h:S_foliantref35_SamePage t0 t1 w K):Calls prog 21 #[t0,t1] w K:=
 calls_of_wpX Tryz.func21 rfl rfl rfl rfl (Eq.mpr (S_foliantref35_SamePage_eq t0 t1 w K) h)
def S_foliantref35_Same_0 (t0 t1 t5:Value)(w:World)(N1:List Value→World→Prop)(K:Ending→World→Prop):Prop:=
 DoX prog (mB .len #[31] 3 #[false] #[t0]) w (pk K) fun t13 w=>
 DoX prog (mBin .lss 3 t5 t13) w (pk K) fun t14 w=>
 GDo t14 true (fun E=>E t5 w) w fun t16 w=>
 GDo t14 true (fun E=>E t1 w) w fun t17 w=>
 GDo t14 true (fun E=>DoX prog (mB .len #[31] 3 #[false] #[t17]) w (pk K) E) w fun t18 w=>
 GDo t14 true (fun E=>DoX prog (mBin .lss 3 t16 t18) w (pk K) E) w fun t19 w=>
 DoX prog (mPick t14 t19 (.bool false)) w (pk K) fun t20 w=>
 IfX t20 (QuietX w (fun C2=>
 QDo prog C2 (mIA 31 t0 t5) fun t25=>
 QDo prog C2 (mLoad 48 t25) fun t26=>
 QDo prog C2 (mIA 31 t1 t5) fun t29=>
 QDo prog C2 (mLoad 48 t29) fun t30=>
 QCall prog C2 21 #[t26,t30] fun t31=>
 QDo prog C2 (mUn .not t31) fun t32=>
 ∀w,C2 w →
 IfX t32 (K (.returned (.bool false)) w) (DoX prog (mBin .add 3 t5 (.int .i64 1)) w (pk K) fun t22 w=>
 N1 [t22] w))) (K (.returned (.bool true)) w)
def S_foliantref35_Same (t0 t1:Value)(w:World)(K:Ending→World→Prop):Prop:=
 DoX prog (mB .len #[31] 3 #[false] #[t0]) w (pk K) fun t7 w=>
 DoX prog (mB .len #[31] 3 #[false] #[t1]) w (pk K) fun t9 w=>
 DoX prog (mEq .neq 3 (.tmp 7) (.tmp 9) t7 t9) w (pk K) fun t10 w=>
 IfX t10 (K (.returned (.bool false)) w) (LoopX [(.int .i64 0)] w (fun vs1 w N1=>∀_:Sg,S_foliantref35_Same_0 t0 t1 (vs1.getD 0 undef) w N1 K))
theorem S_foliantref35_Same_eq (t0 t1:Value)(w:World)(K:Ending→World→Prop):wpX prog 33 [] [(4,[5])] none (bodyOf Tryz.f16) (topQ prog [.tmp 4] K) (startX [t0,t1]) [] w=S_foliantref35_Same t0 t1 w K:=by kernel_rfl
theorem S_foliantref35_Same_ok {t0 t1:Value}{w:World}{K:Ending→World→Prop}(h:S_foliantref35_Same t0 t1 w K):Calls prog 16 #[t0,t1] w K:=
 calls_of_wpX Tryz.func16 rfl rfl rfl rfl (Eq.mpr (S_foliantref35_Same_eq t0 t1 w K) h)
end
section
open Eng
def S_foliantref05_Dict_3 (t3 t6:Value)(w:World)(N2:List Value→World→Prop)(K:Ending→World→Prop):Prop:=
 DoX prog (mBin .add 3 t6 (.int .i64 2)) w (pk K) fun t32 w=>
 N2 [t3,t32] w
def S_foliantref05_Dict_2 (t0 t2 t3 t5 t6 t7:Value)(w:World)(J3 N4:List Value→World→Prop)(K:Ending→World→Prop):Prop:=
 DoX prog (mBin .lss 3 t7 t6) w (pk K) fun t35 w=>
 IfX t35 (QuietX w (fun C5=>
 QDo prog C5 (mIA 24 t0 t7) fun t40=>
 QDo prog C5 (mFA 26 t40 3) fun t41=>
 QDo prog C5 (mLoad 9 t41) fun t42=>
 QDo prog C5 (mIA 24 t0 t6) fun t45=>
 QDo prog C5 (mFA 26 t45 3) fun t46=>
 QDo prog C5 (mLoad 9 t46) fun t47=>
 QDo prog C5 (mEq .eql 9 (.tmp 42) (.tmp 47) t42 t47) fun t48=>
 ∀w,C5 w →
 IfX t48 (DoX prog (mBuild 26 #[]) w (pk K) fun t49 w=>
 DoX prog (mStore 26 t2 t49) w (pk K) fun _ w=>
 RetX prog [.cell t2 26,.val (.int .i64 9)] w K) (DoX prog (mBin .add 3 t7 (.int .i64 2)) w (pk K) fun t37 w=>
 N4 [t3,t37] w))) (DoX prog (mBin .add 3 t6 (.int .i64 1)) w (pk K) fun t52 w=>
 DoX prog (mIA 24 t0 t52) w (pk K) fun t53 w=>
 DoX prog (mFA 26 t53 0) w (pk K) fun t54 w=>
 DoX prog (mLoad 3 t54) w (pk K) fun t55 w=>
 DoX prog (mEq .neq 3 (.tmp 55) (.const (.int .i64 0)) t55 (.int .i64 0)) w (pk K) fun t56 w=>
 IfX t56 (QuietX w (fun C6=>
 QDo prog C6 (mLoad 26 t5) fun t57=>
 QDo prog C6 (mIA 24 t0 t6) fun t60=>
 QDo prog C6 (mFA 26 t60 3) fun t61=>
 QDo prog C6 (mLoad 9 t61) fun t62=>
 QDo prog C6 (mBin .add 3 t6 (.int .i64 1)) fun t65=>
 QDo prog C6 (mIA 24 t0 t65) fun t66=>
 QDo prog C6 (mLoad 26 t66) fun t67=>
 ∀w,C6 w →
 CallX prog 48 #[t57,t62,t67] w (pk K) fun t68 w=>
 DoX prog (mStore 26 t5 t68) w (pk K) fun _ w=>
 J3 [t3] w)) (J3 [t3] w))
def S_foliantref05_Dict_1 (t0 t2 t3 t5 t6:Value)(w:World)(N2:List Value→World→Prop)(K:Ending→World→Prop):Prop:=
 DoX prog (mB .len #[24] 3 #[false] #[t0]) w (pk K) fun t29 w=>
 DoX prog (mBin .lss 3 t6 t29) w (pk K) fun t30 w=>
 IfX t30 (JoinX (fun J3=>
 LoopX [t3,(.int .i64 0)] w (fun vs4 w N4=>∀_:Sg,S_foliantref05_Dict_2 t0 t2 (vs4.getD 0 undef) t5 t6 (vs4.getD 1 undef) w J3 N4 K)) (fun vs3 w=>∀_:Sg,S_foliantref05_Dict_3 (vs3.getD 0 undef) t6 w N2 K)) (DoX prog (mLoad 26 t5) w (pk K) fun t69 w=>
 CallX prog 47 #[t69] w (pk K) fun t70 w=>
 DoX prog (mExt t70 0) w (pk K) fun t71 w=>
 DoX prog (mExt t70 1) w (pk K) fun t72 w=>
 DoX prog (mStore 26 t2 t71) w (pk K) fun _ w=>
 RetX prog [.cell t2 26,.val t72] w K)
def S_foliantref05_Dict_0 (t0 t2 t3 t4:Value)(w:World)(N1:List Value→World→Prop)(K:Ending→World→Prop):Prop:=
 DoX prog (mB .len #[24] 3 #[false] #[t0]) w (pk K) fun t15 w=>
 DoX prog (mBin .lss 3 t4 t15) w (pk K) fun t16 w=>
 IfX t16 (DoX prog (mIA 24 t0 t4) w (pk K) fun t21 w=>
 DoX prog (mFA 26 t21 0) w (pk K) fun t22 w=>
 DoX prog (mLoad 3 t22) w (pk K) fun t23 w=>
 DoX prog (mEq .neq 3 (.tmp 23) (.const (.int .i64 5)) t23 (.int .i64 5)) w (pk K) fun t24 w=>
 IfX t24 (DoX prog (mBuild 26 #[]) w (pk K) fun t25 w=>
 DoX prog (mStore 26 t2 t25) w (pk K) fun _ w=>
 RetX prog [.cell t2 26,.val (.int .i64 1)] w K) (DoX prog (mBin .add 3 t4 (.int .i64 2)) w (pk K) fun t18 w=>
 N1 [t3,t18] w)) (DoX prog (mBuild 26 #[(0,(.int .i64 7))]) w (pk K) fun t26 w=>
 DoX prog (mAlloc 26) w (pk K) fun t5 w=>
 DoX prog (mStore 26 t5 t26) w (pk K) fun _ w=>
 LoopX [t3,(.int .i64 0)] w (fun vs2 w N2=>∀_:Sg,S_foliantref05_Dict_1 t0 t2 (vs2.getD 0 undef) t5 (vs2.getD 1 undef) w N2 K))
def S_foliantref05_Dict (t0:Value)(w:World)(K:Ending→World→Prop):Prop:=
 DoX prog (mAlloc 26) w (pk K) fun t2 w=>
 DoX prog (mB .len #[24] 3 #[false] #[t0]) w (pk K) fun t9 w=>
 DoX prog (mBin .rem 3 t9 (.int .i64 2)) w (pk K) fun t10 w=>
 DoX prog (mEq .neq 3 (.tmp 10) (.const (.int .i64 0)) t10 (.int .i64 0)) w (pk K) fun t11 w=>
 IfX t11 (DoX prog (mBuild 26 #[]) w (pk K) fun t12 w=>
 DoX prog (mStore 26 t2 t12) w (pk K) fun _ w=>
 RetX prog [.cell t2 26,.val (.int .i64 1)] w K) (LoopX [(.int .i64 0),(.int .i64 0)] w (fun vs1 w N1=>∀_:Sg,S_foliantref05_Dict_0 t0 t2 (vs1.getD 0 undef) (vs1.getD 1 undef) w N1 K))
theorem S_foliantref05_Dict_eq (t0:Value)(w:World)(K:Ending→World→Prop):wpX prog 73 [(11,[3])] [(4,[3,4]),(10,[3,6]),(13,[3,7])] none (bodyOf Tryz.f83) (topQ prog [.cell 2 26,.tmp 3] K) (startX [t0]) [] w=S_foliantref05_Dict t0 w K:=by kernel_rfl
theorem S_foliantref05_Dict_ok {t0:Value}{w:World}{K:Ending→World→Prop}(h:S_foliantref05_Dict t0 w K):Calls prog 83 #[t0] w K:=
 calls_of_wpX Tryz.func83 rfl rfl rfl rfl (Eq.mpr (S_foliantref05_Dict_eq t0 w K) h)
def S_foliantref05_Number (t0:Value)(w:World)(K:Ending→World→Prop):Prop:=
 DoX prog (mBox 26 t0) w (pk K) fun t1 w=>
 DoX prog (mFA 26 t1 0) w (pk K) fun t4 w=>
 DoX prog (mLoad 3 t4) w (pk K) fun t5 w=>
 DoX prog (mEq .eql 3 (.tmp 5) (.const (.int .i64 3)) t5 (.int .i64 3)) w (pk K) fun t6 w=>
 GDo t6 true (fun E=>DoX prog (mFA 26 t1 1) w (pk K) E) w fun t8 w=>
 GDo t6 true (fun E=>DoX prog (mLoad 2 t8) w (pk K) E) w fun t9 w=>
 GDo t6 true (fun E=>DoX prog (mBin .geq 2 t9 (.int .i64 (-1073741824))) w (pk K) E) w fun t10 w=>
 DoX prog (mPick t6 t10 (.bool false)) w (pk K) fun t11 w=>
 GDo t11 true (fun E=>DoX prog (mFA 26 t1 1) w (pk K) E) w fun t13 w=>
 GDo t11 true (fun E=>DoX prog (mLoad 2 t13) w (pk K) E) w fun t14 w=>
 GDo t11 true (fun E=>DoX prog (mBin .leq 2 t14 (.int .i64 1073741824)) w (pk K) E) w fun t15 w=>
 DoX prog (mPick t11 t15 (.bool false)) w (pk K) fun t16 w=>
 IfX t16 (DoX prog (mFA 26 t1 1) w (pk K) fun t17 w=>
 DoX prog (mLoad 2 t17) w (pk K) fun t18 w=>
 K (.returned (.tuple #[t18,(.bool true)])) w) (DoX prog (mFA 26 t1 0) w (pk K) fun t19 w=>
 DoX prog (mLoad 3 t19) w (pk K) fun t20 w=>
 DoX prog (mEq .eql 3 (.tmp 20) (.const (.int .i64 2)) t20 (.int .i64 2)) w (pk K) fun t21 w=>
 GDo t21 true (fun E=>DoX prog (mFA 26 t1 1) w (pk K) E) w fun t23 w=>
 GDo t21 true (fun E=>DoX prog (mLoad 2 t23) w (pk K) E) w fun t24 w=>
 GDo t21 true (fun E=>DoX prog (mBin .geq 2 t24 (.int .i64 (-107374))) w (pk K) E) w fun t25 w=>
 DoX prog (mPick t21 t25 (.bool false)) w (pk K) fun t26 w=>
 GDo t26 true (fun E=>DoX prog (mFA 26 t1 1) w (pk K) E) w fun t28 w=>
 GDo t26 true (fun E=>DoX prog (mLoad 2 t28) w (pk K) E) w fun t29 w=>
 GDo t26 true (fun E=>DoX prog (mBin .leq 2 t29 (.int .i64 107374)) w (pk K) E) w fun t30 w=>
 DoX prog (mPick t26 t30 (.bool false)) w (pk K) fun t31 w=>
 IfX t31 (DoX prog (mFA 26 t1 1) w (pk K) fun t32 w=>
 DoX prog (mLoad 2 t32) w (pk K) fun t33 w=>
 DoX prog (mBin .mul 2 (.int .i64 10000) t33) w (pk K) fun t34 w=>
 K (.returned (.tuple #[t34,(.bool true)])) w) (K (.returned (.tuple #[(.int .i64 0),(.bool false)])) w))
theorem S_foliantref05_Number_eq (t0:Value)(w:World)(K:Ending→World→Prop):wpX prog 35 [] [] none (bodyOf Tryz.f42) (topQ prog [.tmp 2,.tmp 3] K) (startX [t0]) [] w=S_foliantref05_Number t0 w K:=by kernel_rfl
theorem S_foliantref05_Number_ok {t0:Value}{w:World}{K:Ending→World→Prop}(h:S_foliantref05_Number t0 w K):Calls prog 42 #[t0] w K:=
 calls_of_wpX Tryz.func42 rfl rfl rfl rfl (Eq.mpr (S_foliantref05_Number_eq t0 w K) h)
end
section
open Eng Go.RowKit
theorem rfollowV (d:Dc)(o:Ob)(dv v:Value)(M:Mem)(hd:Dk.Ok d)(hdv:DV M.A M.w dv d)(hv:OV M.A M.w v o) :
  ∃v',OV M.A M.w v' (Dk.follow d o)∧∀w,M.has w→Ret prog 41 #[dv,v] w (fun r w'=>r=v'∧Below w.heap.size w w'):=by
 obtain⟨vk,vc,ocs,rfl,ha⟩:=hv.open;obtain⟨vi,tk,tc,cs,rfl,hda⟩:=hdv;have hlen:=hd.len;have hfo:o.k=8→Dk.follow d o=Dk.pick (Dk.find d.items o.n) o.g:=by intro h8;unfold Dk.follow;rw[if_neg (by simp[h8])]
 have hfi:Dk.find d.items o.n=d.items[d.items.findIdx (fun i=>decide (i.num=o.n))]?:=find_idx _ _
 -- up to the loop
 have go:∀(v':Value),OV M.A M.w v' (Dk.follow d o)→(o.k≠8→v'=obV o vk vc) →
   (∀(x:Nat) (hx:x < d.items.length),d.items.findIdx (fun i=>decide (i.num=o.n))=x→d.items[x].gen≠o.g→o.k=8→v'=obV ob0 nilS nilS) →
   (d.items.length≤d.items.findIdx (fun i=>decide (i.num=o.n))→o.k=8→v'=obV ob0 nilS nilS) →
   (∀(x:Nat) (hx:x < d.items.length),d.items.findIdx (fun i=>decide (i.num=o.n))=x→d.items[x].gen=o.g→o.k=8 →
    ∃(xk xc:Value) (b off:Nat),v'=obV d.items[x].obj xk xc∧OV M.A M.w (obV d.items[x].obj xk xc) d.items[x].obj∧∀W,M.has W→(mIA 22 vi (.int .i64 (x:Int))).run prog W=.ok (.value (.pointer (some ⟨b,off,none⟩))) W∧∀j u,(itC d.items[x] xk xc)[j]?=some u→W.cell? ⟨b,off+j,none⟩=some u) →
   ∀w,M.has w→Ret prog 41 #[dcV d vi tk tc,obV o vk vc] w (fun r w'=>r=v'∧Below w.heap.size w w'):=by
  intro v' hov e1 e2 e3 e4 w hM;refine ret_of fun K hK=>S_foliantref19_Follow_ok ?_;unfold S_foliantref19_Follow;have fin:∀(W:World) (L:List Ent),OwnS M.A w W (L++[.mem M])→K (.returned v') W:=fun W L ho=>by
   refine hK _ _ ⟨rfl,(ho.toGives L.length (by rw[List.getElem?_append_right (Nat.le_refl _)];simp) M.le_refl hM).below⟩
  refine o_dcb d hda.items.one hda.trailer.oneK hda.trailer.oneC (OwnS.memS hM) fun b2 w1 ho=>?_;refine o_obb o ha.keys.one ha.kids.one ho fun b3 w2 ho=>?_;refine o_oba ho fun b4 w3 ho=>?_;rw[fa_o0,ob_k ho 1 rfl];simp only[rs];by_cases h8:o.k=8
  case neg=>
   simp only[h8,ne_eq,not_false_eq_true,decide_true,i_t];rw[ob_v ho 1 rfl];refine ob_put 0 ha.keys.one ha.kids.one ho rfl fun w5 ho=>?_;refine ret_obi 0 ho rfl ?_;rw[←e1 h8];exact fin _ [obE b4 o vk vc,obE b3 o vk vc,dcE b2 d vi tk tc] ho
  simp only[h8,ne_eq,not_true,decide_false,i_f];rw[fa_d0,dc_items ho 2 rfl,sl_len Tryz.underlying22 (hda.items.now (ho.hasM 3 rfl))];refine loop (fun vs W=>∃i:Nat,vs=[.int .i64 i]∧i≤d.items.length∧(∀m (h:m < d.items.length),m < i→decide (d.items[m].num=o.n)=false)∧OwnS M.A w W [obE b4 ob0 nilS nilS,obE b3 o vk vc,dcE b2 d vi tk tc,.mem M]) (fun vs _=>d.items.length - n0 vs) ⟨0,rfl,by omega,fun m _ h=>by omega,ho⟩ ?_;clear ho;rintro vs w4 ⟨i,rfl,hi,hlo,ho⟩ _;simp only[S_foliantref19_Follow_0,gd,rs];have none_:∀{W:World} {L:List Ent},OwnS M.A w W (L++[obE b4 ob0 nilS nilS,obE b3 o vk vc,dcE b2 d vi tk tc,.mem M])→v'=obV ob0 nilS nilS→DoX prog (mBuild 26 #[]) W (pk K) (fun t W=>DoX prog (mStore 26 (.pointer (some ⟨b4,0,none⟩)) t) W (pk K) fun _ W=>RetX prog [.cell (.pointer (some ⟨b4,0,none⟩)) 26] W K):=by
   intro W L ho hg;rw[m_ob0];have hl:(L++[obE b4 ob0 nilS nilS,obE b3 o vk vc,dcE b2 d vi tk tc,.mem M])[L.length]?=some (obE b4 ob0 nilS nilS):=by rw[List.getElem?_append_right (Nat.le_refl _)];simp
   refine ob_put L.length rfl rfl ho hl fun w7 ho=>?_;have e:(L++[obE b4 ob0 nilS nilS,obE b3 o vk vc,dcE b2 d vi tk tc,.mem M]).set L.length (obE b4 ob0 nilS nilS)=(L++[obE b4 ob0 nilS nilS,obE b3 o vk vc,dcE b2 d vi tk tc])++[.mem M]:=by
    rw[List.set_append_right _ _ (Nat.le_refl _)];simp
   have ho:OwnS M.A w w7 ((L++[obE b4 ob0 nilS nilS,obE b3 o vk vc,dcE b2 d vi tk tc])++[.mem M]):=by rw[←e];exact ho
   refine ret_obi L.length ho (by rw[List.append_assoc];exact hl) ?_;rw[←hg];exact fin _ _ ho
  by_cases hlt:(i:Int) < (d.items.length:Int)
  ·have hi':i < d.items.length:=by omega
   simp only[hlt,decide_true,i_t]
   -- the item that is read,the one that was chosen where it is the one wanted
   have rd:∃(xk xc:Value) (b off:Nat),(d.items[i].num=o.n→d.items[i].gen=o.g→v'=obV d.items[i].obj xk xc)∧OV M.A M.w (obV d.items[i].obj xk xc) d.items[i].obj∧∀W,M.has W→(mIA 22 vi (.int .i64 (i:Int))).run prog W=.ok (.value (.pointer (some ⟨b,off,none⟩))) W∧∀j u,(itC d.items[i] xk xc)[j]?=some u→W.cell? ⟨b,off+j,none⟩=some u:=by
    by_cases hn:d.items[i].num=o.n∧d.items[i].gen=o.g
    ·have hidx:=findIdx_at (p:=fun i:It=>decide (i.num=o.n)) hi' hlo (by simp[hn.1]);obtain⟨xk,xc,b,off,e,h1,h2⟩:=e4 i hi' hidx hn.2 h8;exact⟨xk,xc,b,off,fun _ _=>e,h1,h2⟩
    ·obtain⟨xk,xc,b,off,h1,h2⟩:=item_at hda.items hda.all hi';exact⟨xk,xc,b,off,fun a b=>absurd ⟨a,b⟩ hn,h1,h2⟩
   obtain⟨xk,xc,bi,oi,hsel,hx,hr⟩:=rd;obtain⟨r1,r2⟩:=hr w4 (ho.hasM 3 rfl);refine do_eq r1 |>.mpr (do_eq (run_it r2) |>.mpr ?_);refine o_ita ho fun b6 w5 ho=>?_;refine it_put 0 hx.oneK hx.oneC ho rfl fun w6 ho=>?_;rw[fa_i0,it_num ho 0 rfl,fa_o1,ob_n ho 2 rfl];simp only[rs];by_cases hn:d.items[i].num=o.n
   ·have hidx:=findIdx_at (p:=fun i:It=>decide (i.num=o.n)) hi' hlo (by simp[hn]);simp only[hn,decide_true,i_t];rw[fa_i1,it_gen ho 0 rfl,fa_o2,ob_g ho 2 rfl];simp only[rs];by_cases hg:d.items[i].gen=o.g
    ·simp only[hg,ne_eq,not_true,decide_false,i_f];rw[fa_i2,it_obj ho 0 rfl];refine ob_put 1 hx.oneK hx.oneC ho rfl fun w7 ho=>?_;refine ret_obi 1 ho rfl ?_;rw[←hsel hn hg];exact fin _ [itE b6 d.items[i] xk xc,obE b4 d.items[i].obj xk xc,obE b3 o vk vc,dcE b2 d vi tk tc] ho
    ·simp only[hg,ne_eq,not_false_eq_true,decide_true,i_t];exact none_ (L:=[itE b6 d.items[i] xk xc]) ho (e2 i hi' hidx hg h8)
   ·simp only[hn,decide_false,i_f];rw[wrap64_id (by omega) (by omega)];refine nextX ⟨i+1,rfl,by omega,fun m hm hmi=>?_,ho.tail⟩ (by simp[n0,RowKit.intOf];omega);rcases Nat.lt_or_ge m i with h|h
    ·exact hlo m hm h
    ·have:m=i:=by omega
     subst this;exact decide_eq_false hn
  ·simp only[hlt,decide_false,i_f];have:¬d.items.findIdx (fun i=>decide (i.num=o.n)) < d.items.length:=by
    intro h;have h1:=hlo _ h (by omega);have h2:=List.findIdx_getElem (w:=h);rw[h1] at h2;cases h2
   exact none_ (L:=[]) ho (e3 (by omega) h8)
 by_cases h8:o.k=8
 ·have hfo:=hfo h8;by_cases hix:d.items.findIdx (fun i=>decide (i.num=o.n)) < d.items.length
  ·rw[List.getElem?_eq_getElem hix] at hfi;rw[hfi] at hfo;simp only[Dk.pick] at hfo;by_cases hg:d.items[d.items.findIdx (fun i=>decide (i.num=o.n))].gen=o.g
   ·rw[if_neg (by simp[hg])] at hfo;obtain⟨xk,xc,b,off,h1,h2⟩:=item_at hda.items hda.all hix;refine⟨_,by rw[hfo];exact h1,go _ (by rw[hfo];exact h1) (fun h=>absurd h8 h) (fun x hx e hne _=>?_) (fun h _=>by omega) (fun x hx e hge _=>?_)⟩
    ·subst e;exact absurd hg hne
    ·subst e;exact⟨xk,xc,b,off,rfl,h1,h2⟩
   ·rw[if_pos hg] at hfo;refine⟨obV ob0 nilS nilS,by rw[hfo];exact ob0_ov M,go _ (by rw[hfo];exact ob0_ov M) (fun h=>absurd h8 h) (fun _ _ _ _ _=>rfl) (fun _ _=>rfl) (fun x hx e hge _=>?_)⟩;subst e;exact absurd hge hg
  ·rw[List.getElem?_eq_none (by omega)] at hfi;rw[hfi] at hfo;simp only[Dk.pick] at hfo;refine⟨obV ob0 nilS nilS,by rw[hfo];exact ob0_ov M,go _ (by rw[hfo];exact ob0_ov M) (fun h=>absurd h8 h) (fun _ _ _ _ _=>rfl) (fun _ _=>rfl) (fun x hx e _ _=>?_)⟩;omega
 ·have e:Dk.follow d o=o:=by unfold Dk.follow;rw[if_pos h8]
  refine⟨obV o vk vc,by rw[e];exact ha.ov,go _ (by rw[e];exact ha.ov) (fun _=>rfl) (fun _ _ _ _ h=>absurd h h8) (fun _ h=>absurd h h8) (fun _ _ _ _ h=>absurd h h8)⟩
theorem rnumber35_ret (o:Ob)(v:Value)(w:World)(hv:OV (InW w) w v o):Ret prog 42 #[v] w (fun v w'=>v=.tuple #[.int .i64 (Pg.number o).1,.bool (Pg.number o).2]∧Below w.heap.size w w'):=by
 refine ret_of fun K hK=>S_foliantref05_Number_ok ?_;unfold S_foliantref05_Number;obtain⟨xk,xc,cs,rfl,hx⟩:=hv.open;refine o_obb o hx.keys.one hx.kids.one (Own.start w) fun b1 w1 ho=>?_;have ho:Own w w1 [obE b1 o xk xc]:=ho;have fin:∀{p:Int×Bool},p=Pg.number o→K (.returned (.tuple #[.int .i64 p.1,.bool p.2])) w1:=fun e=>hK _ _ ⟨by rw[e],ho.done⟩;unfold Pg.number Pg.num1 at fin;rw[fa_o0,ob_k ho 0 rfl];simp only[rs];by_cases h3:o.k=3
 ·rw[if_neg (by rw[h3];decide),if_pos h3] at fin;simp only[h3,decide_true,rs,fa_o1,fa_o0,ob_k ho 0 rfl,ob_n ho 0 rfl,show decide ((3:Int)=2)=false by decide,g_un];by_cases a:-1073741824≤o.n
  ·by_cases b:o.n≤1073741824
   ·simp only[a,b,decide_true,rs,fa_o1,ob_n ho 0 rfl];exact fin (by rw[if_pos (by simp[a,b])])
   ·simp only[a,b,decide_true,decide_false,rs,g_un,fa_o0,fa_o1,ob_k ho 0 rfl,ob_n ho 0 rfl,h3,show decide ((3:Int)=2)=false by decide];exact fin (p:=(0,false)) (by rw[if_neg (by simp[b])])
  ·simp only[a,decide_false,rs,g_un,fa_o0,fa_o1,ob_k ho 0 rfl,ob_n ho 0 rfl,h3,show decide ((3:Int)=2)=false by decide];exact fin (p:=(0,false)) (by rw[if_neg (by simp[a])])
 ·simp only[h3,decide_false,rs,g_un,fa_o0,ob_k ho 0 rfl];by_cases h2:o.k=2
  ·rw[if_pos h2] at fin;simp only[h2,decide_true,rs,fa_o1,ob_n ho 0 rfl];by_cases a:-107374≤o.n
   ·by_cases b:o.n≤107374
    ·simp only[a,b,decide_true,rs,fa_o1,ob_n ho 0 rfl];rw[wrap64_id (by omega) (by omega),Int.mul_comm];exact fin (by rw[if_pos (by simp[a,b]),if_pos (by simp;omega)])
    ·simp only[a,b,decide_true,decide_false,rs,g_un,fa_o1,ob_n ho 0 rfl];exact fin (p:=(0,false)) (by rw[if_neg (by simp[b])])
   ·simp only[a,decide_false,rs,g_un,fa_o1,ob_n ho 0 rfl];exact fin (p:=(0,false)) (by rw[if_neg (by simp[a])])
  ·rw[if_neg h2,if_neg h3] at fin;simp only[h2,decide_false,rs,g_un];exact fin (p:=(0,false)) rfl
def n4C (f:Nat→Int):List Value:=[.int .i64 (f 0),.int .i64 (f 1),.int .i64 (f 2),.int .i64 (f 3)]
def n4E (b:Nat)(f:Nat→Int):Ent:=.cells b (n4C f) 85
theorem n4_set (f:Nat→Int)(x:Int){i:Nat}(hi:i < 4):(n4C f).set i (.int .i64 x)=n4C (fun j=>if j=i then x else f j):=by
 match i,hi with
|0,_=>rfl
|1,_=>rfl
|2,_=>rfl
|3,_=>rfl
section
variable {w:World}{PK:PKT}{K:VWP}{S:Nat→Prop}{w0:World}{L:List Ent}
theorem n4_ia {b i:Nat}(hi:i < 4):DoX prog (mIA 85 (.pointer (some ⟨b,0,none⟩)) (.int .i64 (i:Int))) w PK K=K (.pointer (some ⟨b,i,none⟩)) w:=by
 match i,hi with
|0,_=>exact do_eq (by kernel_rfl)
|1,_=>exact do_eq (by kernel_rfl)
|2,_=>exact do_eq (by kernel_rfl)
|3,_=>exact do_eq (by kernel_rfl)
theorem n4_0 {b:Nat}:DoX prog (mIA 85 (.pointer (some ⟨b,0,none⟩)) (.int .i64 0)) w PK K=K (.pointer (some ⟨b,0,none⟩)) w:=n4_ia (i:=0) (by omega)
theorem n4_1 {b:Nat}:DoX prog (mIA 85 (.pointer (some ⟨b,0,none⟩)) (.int .i64 1)) w PK K=K (.pointer (some ⟨b,1,none⟩)) w:=n4_ia (i:=1) (by omega)
theorem n4_2 {b:Nat}:DoX prog (mIA 85 (.pointer (some ⟨b,0,none⟩)) (.int .i64 2)) w PK K=K (.pointer (some ⟨b,2,none⟩)) w:=n4_ia (i:=2) (by omega)
theorem n4_3 {b:Nat}:DoX prog (mIA 85 (.pointer (some ⟨b,0,none⟩)) (.int .i64 3)) w PK K=K (.pointer (some ⟨b,3,none⟩)) w:=n4_ia (i:=3) (by omega)
theorem n4_l0 (ho:OwnS S w0 w L)(j:Nat){b:Nat}{f:Nat→Int}(hi:L[j]?=some (n4E b f)):DoX prog (mLoad 2 (.pointer (some ⟨b,0,none⟩))) w PK K=K (.int .i64 (f 0)) w:=l_cell nI64p (ho.cell j hi 0 rfl)
theorem n4_l1 (ho:OwnS S w0 w L)(j:Nat){b:Nat}{f:Nat→Int}(hi:L[j]?=some (n4E b f)):DoX prog (mLoad 2 (.pointer (some ⟨b,1,none⟩))) w PK K=K (.int .i64 (f 1)) w:=l_cell nI64p (ho.cell j hi 1 rfl)
theorem n4_l2 (ho:OwnS S w0 w L)(j:Nat){b:Nat}{f:Nat→Int}(hi:L[j]?=some (n4E b f)):DoX prog (mLoad 2 (.pointer (some ⟨b,2,none⟩))) w PK K=K (.int .i64 (f 2)) w:=l_cell nI64p (ho.cell j hi 2 rfl)
theorem n4_l3 (ho:OwnS S w0 w L)(j:Nat){b:Nat}{f:Nat→Int}(hi:L[j]?=some (n4E b f)):DoX prog (mLoad 2 (.pointer (some ⟨b,3,none⟩))) w PK K=K (.int .i64 (f 3)) w:=l_cell nI64p (ho.cell j hi 3 rfl)
theorem o_n4 (ho:OwnS S w0 w L)(k:∀b w',OwnS S w0 w' (n4E b (fun _=>0)::L)→K (.pointer (some ⟨b,0,none⟩)) w'):DoX prog (mAlloc 85) w PK K:=
 o_new (fun b=>.pointer (some ⟨b,0,none⟩)) (n4C fun _=>0) 85 (fun _=>by kernel_rfl) ho k
theorem n4_put (j:Nat){b i:Nat}{f:Nat→Int}{x:Int}(hi4:i < 4)(ho:OwnS S w0 w L)(hi:L[j]?=some (n4E b f))(k:∀w',OwnS S w0 w' (L.set j (n4E b (fun m=>if m=i then x else f m)))→K undef w') :
  DoX prog (mStore 2 (.pointer (some ⟨b,i,none⟩)) (.int .i64 x)) w PK K:=o_store j ho hi (by kernel_rfl) rfl hi4 fun w' ho=>k w' (by
   unfold n4E;rw[←n4_set f x hi4];exact ho)
end
def rectV (x:Rc×Int):Value:=.tuple #[rcV x.1,.int .i64 x.2]
theorem Pg.rectA_no {d:Dc}{a:Ob}{i:Nat}(h6:a.k=6)(h4:a.kids.length=4)(hi:i < 4)(h:(Pg.numAt d a i).2=false):Pg.rectA d a=(Pg.rc0,3):=by
 unfold Pg.rectA;rw[if_neg (by simp[h6,h4]),if_pos]
 match i,hi with
|0,_=>rw[h];simp
|1,_=>rw[h];simp
|2,_=>rw[h];simp
|3,_=>rw[h];simp
theorem Pg.rectA_yes {d:Dc}{a:Ob}{f:Nat→Int}(h6:a.k=6)(h4:a.kids.length=4)(h:∀j,j < 4→Pg.numAt d a j=(f j,true)):Pg.rectA d a=(Pg.four (f 0) (f 1) (f 2) (f 3),0):=by
 unfold Pg.rectA;rw[if_neg (by simp[h6,h4]),h 0 (by omega),h 1 (by omega),h 2 (by omega),h 3 (by omega),if_neg (by simp)]
theorem Pg.numAt_eq {d:Dc}{a:Ob}{i:Nat}(h:i < a.kids.length):Pg.numAt d a i=Pg.number (Dk.follow d a.kids[i]):=by
 unfold Pg.numAt;rw[List.getD_eq_getElem?_getD,List.getElem?_eq_getElem h];rfl
theorem prect_ret (d:Dc)(o:Ob)(dv v:Value)(M:Mem)(w:World)(hd:Dk.Ok d)(hw:o.wt≤1000000000)(hM:M.has w)(hdv:DV M.A M.w dv d)(hv:OV M.A M.w v o) :
  RetM prog 18 #[dv,v] M w (fun r _=>r=rectV (Pg.rect d o)):=by
 obtain⟨vk,vc,ocs,rfl,ha⟩:=hv.open;obtain⟨vi,tk,tc,cs,rfl,hda⟩:=hdv;refine retM_of hM fun K hK=>S_pages_Rect_ok ?_;unfold S_pages_Rect;refine o_dcb d hda.items.one hda.trailer.oneK hda.trailer.oneC (OwnS.memS hM) fun b2 w1 ho=>?_;refine o_obb o ha.keys.one ha.kids.one ho fun b3 w2 ho=>?_;refine o_rca ho fun b4 w3 ho=>?_;rw[dc_v ho 2 rfl,ob_v ho 1 rfl];refine c_mem ho 3 rfl (dfollow_ret d o _ _ M w3 hd hw (ho.hasM 3 rfl) hda.dv hv) fun y N w4 hle hy ho=>?_;have haw:=Dk.follow_wt hd hw;have hre:Pg.rect d o=Pg.rectA d (Dk.follow d o):=rfl;generalize Dk.follow d o=a at *;obtain⟨yk,yc,ycs,rfl,hya⟩:=hy.open;refine ob_put 1 hya.keys.one hya.kids.one ho rfl fun w5 ho=>?_;have ho:OwnS M.A w w5 [rcE b4 Pg.rc0,obE b3 a yk yc,dcE b2 d vi tk tc,.mem N]:=ho;have no:∀{W:World} {N:Mem} {L:List Ent},M.le N→OwnS M.A w W (L++[rcE b4 Pg.rc0,obE b3 a yk yc,dcE b2 d vi tk tc,.mem N])→Pg.rect d o=(Pg.rc0,3) →
   DoX prog (mBuild 43 #[]) W (pk K) (fun t W=>DoX prog (mStore 43 (.pointer (some ⟨b4,0,none⟩)) t) W (pk K) fun _ W=>RetX prog [.cell (.pointer (some ⟨b4,0,none⟩)) 43,.val (.int .i64 3)] W K):=by
  intro W N L hle ho he;rw[m_rc0];have hl:(L++[rcE b4 Pg.rc0,obE b3 a yk yc,dcE b2 d vi tk tc,.mem N])[L.length]?=some (rcE b4 Pg.rc0):=by rw[List.getElem?_append_right (Nat.le_refl _)];simp
  refine rc_put L.length ho hl fun w6 ho=>?_;have hl2:L.length < (L++[rcE b4 Pg.rc0,obE b3 a yk yc,dcE b2 d vi tk tc,.mem N]).length:=by simp
  refine ret_rc2 L.length ho (by rw[List.getElem?_set_self hl2]) (hK _ _ N _ (L.length+3) ho ?_ hle ?_)
  ·rw[List.getElem?_set_ne (by omega),List.getElem?_append_right (by omega)];simp
  ·rw[he];rfl
 rw[fa_o0,ob_k ho 1 rfl];simp only[rs];by_cases h6:a.k=6
 case neg=>
  simp only[h6,ne_eq,not_false_eq_true,decide_true,rs,g_un];exact no (L:=[]) hle ho (by rw[hre];unfold Pg.rectA;rw[if_pos (.inl h6)])
 simp only[h6,ne_eq,not_true,decide_false,rs,fa_o5,ob_kids ho 1 rfl];rw[sl_len Tryz.underlying24 (hya.kids.now (ho.hasM 3 rfl))];simp only[rs];by_cases h4:a.kids.length=4
 case neg=>
  have h4':¬(a.kids.length:Int)=4:=by omega
  simp only[h4',ne_eq,not_false_eq_true,decide_true,rs];exact no (L:=[]) hle ho (by rw[hre];unfold Pg.rectA;rw[if_pos (.inr h4)])
 have h4':(a.kids.length:Int)=4:=by omega
 simp only[h4',ne_eq,not_true,decide_false,rs];refine o_n4 ho fun b6 w6 ho=>?_;rw[ob_kids ho 2 rfl,sl_len Tryz.underlying24 (hya.kids.now (ho.hasM 4 rfl))];refine loop (fun vs W=>∃(i:Nat) (N':Mem) (f:Nat→Int) (z:Value),vs=[z,.int .i64 i]∧i≤4∧M.le N'∧N.le N'∧(∀j,j < i→Pg.numAt d a j=(f j,true))∧OwnS M.A w W [n4E b6 f,rcE b4 Pg.rc0,obE b3 a yk yc,dcE b2 d vi tk tc,.mem N']) (fun vs _=>4 - n1 vs)
  ⟨0,N,fun _=>0,_,rfl,by omega,hle,N.le_refl,fun j h=>by omega,ho⟩ ?_
 clear ho;rintro vs w7 ⟨i,N',f,z,rfl,hi,hle1,hle2,hf,ho⟩ _;simp only[S_pages_Rect_0,gd,rs];by_cases hlt:(i:Int) < (a.kids.length:Int)
 ·have hi':i < a.kids.length:=by omega
  simp only[hlt,decide_true,i_t];obtain⟨kv,p,hk,hr⟩:=kid_at hya hi';obtain⟨r1,r2⟩:=hr w7 (Mem.has_of hle2 (ho.hasM 4 rfl));refine do_eq r1 |>.mpr (do_eq r2 |>.mpr ?_);obtain⟨kk,kc,kcs,rfl,hka⟩:=hk.open;refine o_oba ho fun b8 w8 ho=>?_;refine ob_put 0 hka.keys.one hka.kids.one ho rfl fun w9 ho=>?_;have ho:OwnS M.A w w9 [obE b8 a.kids[i] kk kc,n4E b6 f,rcE b4 Pg.rc0,obE b3 a yk yc,dcE b2 d vi tk tc,.mem N']:=ho;have hkw:=kid_wt hi';rw[dc_v ho 4 rfl,ob_v ho 0 rfl];refine c_mem ho 5 rfl (dfollow_ret d a.kids[i] _ _ N' w9 hd (by omega) (ho.hasM 5 rfl) (hda.le hle1).dv (hk.le hle2)) fun q N2 w10 hle3 hq ho=>?_;refine c_below ho (R:=fun v=>v=.tuple #[.int .i64 (Pg.numAt d a i).1,.bool (Pg.numAt d a i).2]) (by rw[Pg.numAt_eq hi'];exact pnumber_ret _ q w10 (OV.inw (ho.hasM 5 rfl) hq)) ?_;rintro _ w11 rfl ho;simp only[ex,rs];have ho:OwnS M.A w w11 [obE b8 a.kids[i] kk kc,n4E b6 f,rcE b4 Pg.rc0,obE b3 a yk yc,dcE b2 d vi tk tc,.mem N2]:=ho;cases hb:(Pg.numAt d a i).2 with
 |false=>
   simp only[Bool.not_false,i_t];exact no (L:=[obE b8 a.kids[i] kk kc,n4E b6 f]) (hle1.trans hle3) ho (by rw[hre];exact Pg.rectA_no h6 h4 (by omega) hb)
 |true=>
   simp only[Bool.not_true,i_f];rw[n4_ia (by omega)];refine n4_put 1 (by omega) ho rfl fun w12 ho=>?_;rw[wrap64_id (by omega) (by omega)];refine nextX ⟨i+1,N2,_,z,rfl,by omega,hle1.trans hle3,hle2.trans hle3,fun j hj=>?_,ho.tail⟩ (by simp[n1,RowKit.intOf];omega);by_cases hji:j=i
   ·subst hji;rw[if_pos rfl,←hb]
   ·rw[if_neg hji];exact hf j (by omega)
 ·simp only[hlt,decide_false,i_f];have hi4:i=4:=by omega
  subst hi4;rw[n4_0,n4_l0 ho 0 rfl,n4_2,n4_l2 ho 0 rfl,m_min,n4_1,n4_l1 ho 0 rfl,n4_3,n4_l3 ho 0 rfl,m_min,n4_0,n4_l0 ho 0 rfl,n4_2,n4_l2 ho 0 rfl,m_max64,n4_1,n4_l1 ho 0 rfl,n4_3,n4_l3 ho 0 rfl,m_max64,m_rc];refine rc_put 1 ho rfl fun w8 ho=>?_;refine ret_rc2 1 ho rfl (hK _ _ N' _ 4 ho rfl hle1 ?_);rw[hre,Pg.rectA_yes h6 h4 hf];rfl
end
section
open Eng Go.RowKit
theorem q_ext {P:Program}{C:World→Prop}{K:Value→Prop}{a b:Value}(h:K a):QDo P C (mExt (.tuple #[a,b]) 0) K:=q_do a (fun _=>rfl) h
theorem q_ext1 {P:Program}{C:World→Prop}{K:Value→Prop}{a b:Value}(h:K b):QDo P C (mExt (.tuple #[a,b]) 1) K:=q_do b (fun _=>rfl) h
theorem rrect35_ret (d:Dc)(o:Ob)(dv v:Value)(M:Mem)(w:World)(hd:Dk.Ok d)(hw:o.wt≤1000000000)(hM:M.has w)(hdv:DV M.A M.w dv d)(hv:OV M.A M.w v o) :
  RetM prog 19 #[dv,v] M w (fun r _=>r=rectV (Pg.rect d o)):=by
 obtain⟨vk,vc,ocs,rfl,ha⟩:=hv.open;obtain⟨vi,tk,tc,cs,rfl,hda⟩:=hdv;refine retM_of hM fun K hK=>S_foliantref35_Rect_ok ?_;unfold S_foliantref35_Rect;refine o_dcb d hda.items.one hda.trailer.oneK hda.trailer.oneC (OwnS.memS hM) fun b2 w1 ho=>?_;refine o_obb o ha.keys.one ha.kids.one ho fun b3 w2 ho=>?_;refine o_rca ho fun b4 w3 ho=>?_;rw[dc_v ho 2 rfl,ob_v ho 1 rfl];refine c_mem ho 3 rfl (rfollow_ret d o _ _ M w3 hd (ho.hasM 3 rfl) hda.dv hv) fun y N w4 hle hy ho=>?_;have haw:=Dk.follow_wt hd hw;have hre:Pg.rect d o=Pg.rectA d (Dk.follow d o):=rfl;generalize Dk.follow d o=a at *;obtain⟨yk,yc,ycs,rfl,hya⟩:=hy.open;refine o_oba ho fun b6 w5 ho=>?_;refine ob_put 0 hya.keys.one hya.kids.one ho rfl fun w5 ho=>?_;have ho:OwnS M.A w w5 [obE b6 a yk yc,rcE b4 Pg.rc0,obE b3 o vk vc,dcE b2 d vi tk tc,.mem N]:=ho;have no:∀{W:World} {L:List Ent},OwnS M.A w W (L++[rcE b4 Pg.rc0,obE b3 o vk vc,dcE b2 d vi tk tc,.mem N])→Pg.rect d o=(Pg.rc0,3) →
   DoX prog (mBuild 43 #[]) W (pk K) (fun t W=>DoX prog (mStore 43 (.pointer (some ⟨b4,0,none⟩)) t) W (pk K) fun _ W=>RetX prog [.cell (.pointer (some ⟨b4,0,none⟩)) 43,.val (.int .i64 3)] W K):=by
  intro W L ho he;rw[m_rc0];have hl:(L++[rcE b4 Pg.rc0,obE b3 o vk vc,dcE b2 d vi tk tc,.mem N])[L.length]?=some (rcE b4 Pg.rc0):=by rw[List.getElem?_append_right (Nat.le_refl _)];simp
  refine rc_put L.length ho hl fun w6 ho=>?_;have hl2:L.length < (L++[rcE b4 Pg.rc0,obE b3 o vk vc,dcE b2 d vi tk tc,.mem N]).length:=by simp
  refine ret_rc2 L.length ho (by rw[List.getElem?_set_self hl2]) (hK _ _ N _ (L.length+3) ho ?_ hle ?_)
  ·rw[List.getElem?_set_ne (by omega),List.getElem?_append_right (by omega)];simp
  ·rw[he];rfl
 rw[fa_o0,ob_k ho 0 rfl];simp only[rs];by_cases h6:a.k=6
 case neg=>
  simp only[h6,ne_eq,not_false_eq_true,decide_true,rs,g_un];exact no (L:=[obE b6 a yk yc]) ho (by rw[hre];unfold Pg.rectA;rw[if_pos (.inl h6)])
 simp only[h6,ne_eq,not_true,decide_false,rs,fa_o5,ob_kids ho 0 rfl];rw[sl_len Tryz.underlying24 (hya.kids.now (ho.hasM 4 rfl))];simp only[rs];by_cases h4:a.kids.length=4
 case neg=>
  have h4':¬(a.kids.length:Int)=4:=by omega
  simp only[h4',ne_eq,not_false_eq_true,decide_true,rs];exact no (L:=[obE b6 a yk yc]) ho (by rw[hre];unfold Pg.rectA;rw[if_pos (.inr h4)])
 have h4':(a.kids.length:Int)=4:=by omega
 simp only[h4',ne_eq,not_true,decide_false,rs];refine o_n4 ho fun b7 w6 ho=>?_;refine loop (fun vs W=>∃(i:Nat) (f:Nat→Int) (z:Value),vs=[z,.int .i64 i]∧i≤4∧(∀j,j < i→Pg.numAt d a j=(f j,true))∧OwnS M.A w W [n4E b7 f,obE b6 a yk yc,rcE b4 Pg.rc0,obE b3 o vk vc,dcE b2 d vi tk tc,.mem N]) (fun vs _=>4 - n1 vs)
  ⟨0,fun _=>0,_,rfl,by omega,fun j h=>by omega,ho⟩ ?_
 clear ho;rintro vs w7 ⟨i,f,z,rfl,hi,hf,ho⟩ _;simp only[S_foliantref35_Rect_0,gd,rs];by_cases hlt:(i:Int) < 4
 ·have hi':i < a.kids.length:=by omega
  simp only[hlt,decide_true,i_t];obtain⟨kv,p,hk,hr⟩:=kid_at hya hi';have hkw:=kid_wt hi';obtain⟨fv,hfv,hfr⟩:=rfollowV d a.kids[i] _ kv N hd (hda.le hle).dv hk;refine quietC (fun W=>OwnS M.A w W [n4E b7 f,obE b6 a yk yc,rcE b4 Pg.rc0,obE b3 o vk vc,dcE b2 d vi tk tc,.mem N]) ho.drew ?_;refine q_at _ (fun W h=>run_load_at (h.agg 4 rfl aggDc)) ?_;refine q_do _ (fun _=>run_fa fo_o5) (q_at yc (fun W h=>run_load_cell nSlObP (h.cell 1 rfl 5 rfl)) ?_);refine q_at _ (fun W h=>(hr W (h.hasM 5 rfl)).1) (q_at _ (fun W h=>(hr W (h.hasM 5 rfl)).2) ?_);refine q_call fv (fun W h=>(hfr W (h.hasM 5 rfl)).mono fun v w' r=>⟨r.1,h.grow r.2⟩) ?_;refine q_call (.tuple #[.int .i64 (Pg.numAt d a i).1,.bool (Pg.numAt d a i).2]) (fun W h=>(rnumber35_ret _ fv W (OV.inw (h.hasM 5 rfl) hfv)).mono fun v w' r=>⟨by rw[r.1,Pg.numAt_eq hi'],h.grow r.2⟩) ?_;refine q_ext (q_ext1 ?_);intro w8 ho;simp only[rs];cases hb:(Pg.numAt d a i).2 with
 |false=>
   simp only[Bool.not_false,i_t];exact no (L:=[n4E b7 f,obE b6 a yk yc]) ho (by rw[hre];exact Pg.rectA_no h6 h4 (by omega) hb)
 |true=>
   simp only[Bool.not_true,i_f];rw[n4_ia (by omega)];refine n4_put 0 (by omega) ho rfl fun w12 ho=>?_;rw[wrap64_id (by omega) (by omega)];refine nextX ⟨i+1,_,z,rfl,by omega,fun j hj=>?_,ho⟩ (by simp[n1,RowKit.intOf];omega);by_cases hji:j=i
   ·subst hji;rw[if_pos rfl,←hb]
   ·rw[if_neg hji];exact hf j (by omega)
 ·simp only[hlt,decide_false,i_f];have hi4:i=4:=by omega
  subst hi4;rw[n4_0,n4_l0 ho 0 rfl,n4_2,n4_l2 ho 0 rfl,m_min,n4_1,n4_l1 ho 0 rfl,n4_3,n4_l3 ho 0 rfl,m_min,n4_0,n4_l0 ho 0 rfl,n4_2,n4_l2 ho 0 rfl,m_max64,n4_1,n4_l1 ho 0 rfl,n4_3,n4_l3 ho 0 rfl,m_max64,m_rc];refine rc_put 2 ho rfl fun w8 ho=>?_;refine ret_rc2 2 ho rfl (hK _ _ N _ 5 ho rfl hle ?_);rw[hre,Pg.rectA_yes h6 h4 hf];rfl
theorem val_eq (d:Dc)(o:Ob)(key:List UInt8):Pg.val d o key=match Vl.get o key with|none=>Vl.ob0|some v=>Dk.follow d v:=by
 unfold Pg.val Dk.path;cases Vl.get o key<;>rfl
theorem rat_ret (d:Dc)(o:Ob)(dv v:Value)(key:List UInt8)(M:Mem)(w:World)(hd:Dk.Ok d)(hw:o.wt≤1000000000)(hM:M.has w)(hdv:DV M.A M.w dv d)(hv:OV M.A M.w v o) :
  RetM prog 94 #[dv,v,.string ⟨key.toArray⟩] M w (fun r N=>OV N.A N.w r (Pg.val d o key)):=by
 obtain⟨vk,vc,ocs,rfl,ha⟩:=hv.open;obtain⟨vi,tk,tc,cs,rfl,hda⟩:=hdv;refine retM_of hM fun K hK=>S_foliantref35_At_ok ?_;unfold S_foliantref35_At;refine o_dcb d hda.items.one hda.trailer.oneK hda.trailer.oneC (OwnS.memS hM) fun b3 w1 ho=>?_;refine o_obb o ha.keys.one ha.kids.one ho fun b4 w2 ho=>?_;refine o_oba ho fun b6 w3 ho=>?_;rw[ob_v ho 1 rfl];refine c_mem ho 3 rfl (rget_ret o _ key M w3 (by omega) (ho.hasM 3 rfl) hv) ?_;rintro _ N w4 hle ⟨x,rfl,hx⟩ ho;obtain⟨xk,xc,xcs,rfl,hxa⟩:=hx.open;simp only[getV,ex];refine o_oba ho fun b7 w5 ho=>?_;refine ob_put 0 hxa.keys.one hxa.kids.one ho rfl fun w6 ho=>?_;have hve:=val_eq d o key;cases hg:Vl.get o key with
|none=>
  rw[hg] at hve;simp only[hg,Option.isSome_none,rs,Bool.not_false];refine c_below ho (R:=fun v=>v=obV (ob1 0 0 0 []) nilS nilS) (rnull_ret w6) ?_;rintro _ w7 rfl ho;refine ob_put 1 rfl rfl ho rfl fun w8 ho=>?_;refine ret_obi 1 ho rfl (hK _ _ N _ 4 ho rfl hle ?_);rw[hve];exact ob0_ov N
|some u=>
  rw[hg] at hve;have huw:=Vl.got_wt hg;simp only[hg,Option.getD_some] at ho hx;simp only[hg,Option.isSome_some,rs,Bool.not_true];rw[dc_v ho 3 rfl,ob_v ho 0 rfl];refine c_mem ho 4 rfl (rfollow_ret d u _ _ N w6 hd (ho.hasM 4 rfl) (hda.le hle).dv hx) fun y N2 w7 hle2 hy ho=>?_;obtain⟨yk,yc,ycs,rfl,hya⟩:=hy.open;refine ob_put 1 hya.keys.one hya.kids.one ho rfl fun w8 ho=>?_;refine ret_obi 1 ho rfl (hK _ _ N2 _ 4 ho rfl (hle.trans hle2) ?_);rw[hve];exact hy
theorem rnamed35_ret (d:Dc)(o:Ob)(dv v:Value)(key s:List UInt8)(M:Mem)(w:World)(hd:Dk.Ok d)(hw:o.wt≤1000000000)(hM:M.has w)(hdv:DV M.A M.w dv d)(hv:OV M.A M.w v o) :
  RetM prog 93 #[dv,v,.string ⟨key.toArray⟩,.string ⟨s.toArray⟩] M w (fun r _=>r=.bool (Pg.named d o key s)):=by
 obtain⟨vk,vc,ocs,rfl,ha⟩:=hv.open;obtain⟨vi,tk,tc,cs,rfl,hda⟩:=hdv;refine retM_of hM fun K hK=>S_foliantref35_named_ok ?_;unfold S_foliantref35_named;refine o_dcb d hda.items.one hda.trailer.oneK hda.trailer.oneC (OwnS.memS hM) fun b4 w1 ho=>?_;refine o_obb o ha.keys.one ha.kids.one ho fun b5 w2 ho=>?_;rw[dc_v ho 1 rfl,ob_v ho 0 rfl];refine c_mem ho 2 rfl (rat_ret d o _ _ key M w2 hd hw (ho.hasM 2 rfl) hda.dv hv) fun y N w3 hle hy ho=>?_;obtain⟨yk,yc,ycs,rfl,hya⟩:=hy.open;refine o_oba ho fun b9 w4 ho=>?_;refine ob_put 0 hya.keys.one hya.kids.one ho rfl fun w5 ho=>?_;rw[fa_o0,ob_k ho 0 rfl];simp only[rs];unfold Pg.named at hK;by_cases h5:(Pg.val d o key).k=5
 ·simp only[h5,decide_true,rs,fa_o3,ob_s ho 0 rfl];exact hK _ _ N _ 3 ho rfl hle (by simp[h5])
 ·simp only[h5,decide_false,rs,g_un];exact hK _ _ N _ 3 ho rfl hle (by simp[h5])
end
section
open Eng Go.RowKit
theorem chn_at {M:Mem}{v:Value}{l:List Ob}(h:Chn M.A M.w v l){i:Nat}(hi:i < l.length) :
  ∃xv p,OV M.A M.w xv l[i]∧(∀W,(mIA 24 v (.int .i64 (i:Int))).run prog W=.ok (.value (.pointer (some p))) W)∧∀W,M.has W→(mLoad 26 (.pointer (some p))).run prog W=.ok (.value xv) W:=by
 obtain⟨cs,h1,h2⟩:=h;obtain⟨b,off,cap,rfl,_⟩:=sl_open h1.1 (by omega);obtain⟨xv,p,a1,a2⟩:=kid_at (o:=.mk 6 0 0 [] [] l) (vk:=nilS) (vc:=.slice (some ⟨b,off,none⟩) l.length cap) ⟨SlA.nil _ _ _ _,h1,h2⟩ hi;have r:∀W,(mIA 24 (.slice (some ⟨b,off,none⟩) l.length cap) (.int .i64 (i:Int))).run prog W=.ok (.value (.pointer (some ⟨b,off+i*6,none⟩))) W:=fun W=>by
  refine (run_ia Tryz.underlying24 szOb (by omega) (by omega)).trans ?_;rw[Int.toNat_natCast]
 refine⟨xv,⟨b,off+i*6,none⟩,a1,r,fun W hW=>?_⟩;obtain⟨q1,q2⟩:=a2 W hW;rw[r W] at q1
 injection q1 with q1
 injection q1 with q1
 injection q1 with q1
 injection q1 with q1
 rw[q1];exact q2
theorem Chn.len {M:Mem}{v:Value}{l:List Ob}(h:Chn M.A M.w v l){W:World}(hW:M.has W){PK:PKT}{K:VWP}:DoX prog (mB .len #[24] 3 #[false] #[v]) W PK K=K (.int .i64 (l.length:Int)) W:=by
 obtain⟨cs,h1,_⟩:=h;exact sl_len Tryz.underlying24 (h1.now hW)
theorem Pg.inh_drop {d:Dc}{key:List UInt8}:∀{l:List Ob} {i:Nat} (hi:i < l.length),Pg.inh d (l.drop i) key=if (Pg.val d l[i] key).k≠0 then Pg.val d l[i] key else Pg.inh d (l.drop (i+1)) key:=by
 intro l i hi;rw[List.drop_eq_getElem_cons hi,Pg.inh]
structure ChOk (l:List Ob):Prop where
 len:l.length≤1000000
 wt:∀o∈l,o.wt≤1000000000
 k:∀o∈l,o.k≠8
theorem ret_lf2 {S:Nat→Prop}{w0 w:World}{L:List Ent}{K:Ending→World→Prop}{b:Nat}{x:Lf}{v u:Value}(i:Nat)(ho:OwnS S w0 w L)(hi:L[i]?=some (lfE b x v))(k:K (.returned (.tuple #[lfV x v,u])) w):RetX prog [.cell (.pointer (some ⟨b,0,none⟩)) 76,.val u] w K:=
 ret_v2 (rv_cell (ho.agg i hi aggLf)) rv_val k
theorem pinh_ret (d:Dc)(x:Lf)(dv cv:Value)(key:List UInt8)(M:Mem)(w:World)(hd:Dk.Ok d)(hx:ChOk x.chain)(hM:M.has w)(hdv:DV M.A M.w dv d)(hc:Chn M.A M.w cv x.chain) :
  RetM prog 66 #[lfV x cv,dv,.string ⟨key.toArray⟩] M w (fun r N=>∃v',r=getV v' (decide ((Pg.inh d x.chain key).k≠0))∧OV N.A N.w v' (Pg.inh d x.chain key)):=by
 obtain⟨vi,tk,tc,cs,rfl,hda⟩:=hdv;refine retM_of hM fun K hK=>S_pages_leaf_inherited_ok ?_;unfold S_pages_leaf_inherited;refine o_lfb x hc.one (OwnS.memS hM) fun b3 w1 ho=>?_;refine o_dcb d hda.items.one hda.trailer.oneK hda.trailer.oneC ho fun b4 w2 ho=>?_;refine o_oba ho fun b6 w3 ho=>?_;have hlen:=hx.len;rw[fa_lf1,lf_ch ho 2 rfl,hc.len (ho.hasM 3 rfl)];refine loop (fun vs W=>∃(i:Nat) (N:Mem) (z:Value),vs=[z,.int .i64 i]∧i≤x.chain.length∧M.le N∧Pg.inh d x.chain key=Pg.inh d (x.chain.drop i) key∧OwnS M.A w W [obE b6 ob0 nilS nilS,dcE b4 d vi tk tc,lfE b3 x cv,.mem N]) (fun vs _=>x.chain.length - n1 vs)
  ⟨0,M,_,rfl,by omega,M.le_refl,rfl,ho⟩ ?_
 clear ho;rintro vs w4 ⟨i,N,z,rfl,hi,hle,he,ho⟩ _;simp only[S_pages_leaf_inherited_0,gd,rs];by_cases hlt:(i:Int) < (x.chain.length:Int)
 ·have hi':i < x.chain.length:=by omega
  simp only[hlt,decide_true,i_t];obtain⟨xv,p,hxv,r1,r2⟩:=chn_at (hc.le hle) hi';refine do_eq (r1 w4) |>.mpr (do_eq (r2 w4 (ho.hasM 3 rfl)) |>.mpr ?_);obtain⟨xk,xc,xcs,rfl,hxa⟩:=hxv.open;refine o_oba ho fun b9 w5 ho=>?_;refine ob_put 0 hxa.keys.one hxa.kids.one ho rfl fun w6 ho=>?_;have hwt:=hx.wt _ (List.getElem_mem hi');have h8:Dk.follow d x.chain[i]=x.chain[i]:=by unfold Dk.follow;rw[if_pos (hx.k _ (List.getElem_mem hi'))]
  rw[dc_v ho 2 rfl,ob_v ho 0 rfl];refine o_str1M key 4 ho rfl fun sv N1 w7 hle1 hs ho=>?_;have ho:OwnS M.A w w7 [obE b9 x.chain[i] xk xc,obE b6 ob0 nilS nilS,dcE b4 d vi tk tc,lfE b3 x cv,.mem N1]:=ho;refine c_mem ho 4 rfl (dpath_ret d x.chain[i] [key] _ _ _ N1 w7 hd hwt (by simp) (ho.hasM 4 rfl) (hda.le (hle.trans hle1)).dv (hxv.le hle1) hs) fun y N2 w8 hle2 hy ho=>?_;rw[h8,show Dk.path d x.chain[i] [key]=Pg.val d x.chain[i] key from rfl] at hy;obtain⟨yk,yc,ycs,rfl,hya⟩:=hy.open;refine o_oba ho fun b10 w9 ho=>?_;refine ob_put 0 hya.keys.one hya.kids.one ho rfl fun w10 ho=>?_;have ho:OwnS M.A w w10 [obE b10 (Pg.val d x.chain[i] key) yk yc,obE b9 x.chain[i] xk xc,obE b6 ob0 nilS nilS,dcE b4 d vi tk tc,lfE b3 x cv,.mem N2]:=ho;have hle':=(hle.trans hle1).trans hle2;rw[Pg.inh_drop hi'] at he;rw[fa_o0,ob_k ho 0 rfl];simp only[rs];by_cases h0:(Pg.val d x.chain[i] key).k=0
  ·rw[if_neg (by simp[h0])] at he;simp only[h0,ne_eq,not_true,decide_false,i_f];rw[wrap64_id (by omega) (by omega)];exact nextX ⟨i+1,N2,z,rfl,by omega,hle',he,ho.tail.tail⟩ (by simp[n1,RowKit.intOf];omega)
  ·rw[if_pos h0] at he;simp only[h0,ne_eq,not_false_eq_true,decide_true,i_t];rw[ob_v ho 0 rfl];refine ob_put 2 hya.keys.one hya.kids.one ho rfl fun w11 ho=>?_;refine ret_ob2 2 ho rfl (hK _ _ N2 _ 5 ho rfl hle' ⟨_,?_,by rw[he];exact hy⟩);rw[he];simp[getV,h0]
 ·simp only[hlt,decide_false,i_f];rw[List.drop_eq_nil_of_le (by omega),Pg.inh] at he;rw[m_ob0];refine ob_put 0 rfl rfl ho rfl fun w7 ho=>?_;refine ret_ob2 0 ho rfl (hK _ _ N _ 3 ho rfl hle ⟨_,?_,by rw[he];exact ob0_ov N⟩);rw[he];rfl
theorem run_dcv {W:World}{b:Nat}{d:Dc}{vi vk vc:Value}(h:(dcE b d vi vk vc).is W):(mLoad 28 (.pointer (some ⟨b,0,none⟩))).run prog W=.ok (.value (dcV d vi vk vc)) W:=
 run_load_at (AtV.agg aggDc (cs:=dcC d vi vk vc) rfl fun j v hj=>by rw[Nat.zero_add];exact cells_cell (T:=28) h hj)
theorem h_rat {S:Nat→Prop}{w0 w:World}{L:List Ent}{PK:PKT}{F:VWP}{b3:Nat}{d:Dc}{vi vk vc cv:Value}{cs:List Value}{l:List Ob}{M:Mem}(key:List UInt8)(jd jm:Nat)(h1:jm≠jd)(ho:OwnS S w0 w L)
  (hjd:L[jd]?=some (dcE b3 d vi vk vc)) (hm:L[jm]?=some (.mem M)) (hd:Dk.Ok d) (hda:DocAt M.A M.w d vi vk vc cs) (hc:Chn M.A M.w cv l) {i:Nat} (hi:i < l.length) (hw:l[i].wt≤1000000000)
  (k:∀b N yk yc W,M.le N→OV N.A N.w (obV (Pg.val d l[i] key) yk yc) (Pg.val d l[i] key)→OwnS S w0 W (obE b (Pg.val d l[i] key) yk yc::L.set jm (.mem N))→F (.pointer (some ⟨b,0,none⟩)) W) :
  HeldX w (fun S2 w=>
 HDo prog S2 (mLoad 28 (.pointer (some ⟨b3,0,none⟩))) fun t16=>
 HDo prog (fun _=>True) (mIA 24 cv (.int .i64 (i:Int))) fun t19=>
 HDo prog S2 (mLoad 26 t19) fun t20=>
 (CallX prog 94 #[t16,t20,.string ⟨key.toArray⟩] w PK fun t22 w=>
 (DoX prog (mAlloc 26) w PK fun t8 w=>
 S2 w∧(DoX prog (mStore 26 t8 t22) w PK fun _ w=>
 (F t8 w))))∧(DoX prog (mAlloc 26) w PK fun t8_1 w=>
 S2 w∧(CallX prog 94 #[t16,t20,.string ⟨key.toArray⟩] w PK fun t22_1 w=>
 (DoX prog (mStore 26 t8_1 t22_1) w PK fun _ w=>
 (F t8_1 w))))):=by
 have ho:=ho.drew;have hjml:jm < L.length:=(List.getElem?_eq_some_iff.1 hm).1;have gd_:∀N,(L.set jm (.mem N))[jd]?=some (dcE b3 d vi vk vc):=fun N=>by rw[List.getElem?_set_ne h1];exact hjd
 have gm:∀N,(L.set jm (.mem N))[jm]?=some (.mem N):=fun N=>by rw[List.getElem?_set_self hjml]
 obtain⟨xv,p,hxv,r1,r2⟩:=chn_at hc hi;have st:∀(b:Nat) (N:Mem) (y:Value) (W:World),M.le N→OV N.A N.w y (Pg.val d l[i] key)→OwnS S w0 W (obE b ob0 nilS nilS::L.set jm (.mem N)) →
   DoX prog (mStore 26 (.pointer (some ⟨b,0,none⟩)) y) W PK fun _ w=>F (.pointer (some ⟨b,0,none⟩)) w:=by
  intro b N y W hle hy ho;obtain⟨yk,yc,ycs,rfl,hya⟩:=hy.open;refine ob_put 0 hya.keys.one hya.kids.one ho rfl fun w6 ho=>?_;exact k b N yk yc w6 hle hy ho
 refine⟨fun W=>(dcE b3 d vi vk vc).is W∧M.has W,⟨ho.at_ jd hjd,ho.hasM jm hm⟩,?_⟩;refine hd_do _ (fun W h=>run_dcv h.1) (hd_pure _ r1 (hd_do _ (fun W h=>r2 W h.2) ?_));constructor
 ·refine c_mem ho jm hm (rat_ret d l[i] _ xv key M _ hd hw (ho.hasM jm hm) hda.dv hxv) fun y N w3 hle hy ho=>?_;refine o_oba ho fun b w4 ho=>?_;exact⟨⟨ho.at_ (jd+1) (gd_ _),Mem.has_of hle (ho.hasM (jm+1) (gm _))⟩,st b N y w4 hle hy ho⟩
 ·refine o_oba ho fun b w4 ho=>?_;refine⟨⟨ho.at_ (jd+1) hjd,ho.hasM (jm+1) hm⟩,?_⟩;refine c_mem ho (jm+1) hm (rat_ret d l[i] _ xv key M _ hd hw (ho.hasM (jm+1) hm) hda.dv hxv) fun y N w3 hle hy ho=>?_;exact st b N y w3 hle hy ho
theorem rinh_ret (d:Dc)(l:List Ob)(dv cv:Value)(key:List UInt8)(M:Mem)(w:World)(hd:Dk.Ok d)(hx:ChOk l)(hM:M.has w)(hdv:DV M.A M.w dv d)(hc:Chn M.A M.w cv l.reverse) :
  RetM prog 70 #[dv,cv,.string ⟨key.toArray⟩] M w (fun r N=>OV N.A N.w r (Pg.inh d l key)):=by
 obtain⟨vi,tk,tc,cs,rfl,hda⟩:=hdv;refine retM_of hM fun K hK=>S_foliantref35_inherited_ok ?_;unfold S_foliantref35_inherited;refine o_dcb d hda.items.one hda.trailer.oneK hda.trailer.oneC (OwnS.memS hM) fun b3 w1 ho=>?_;refine o_oba ho fun b6 w3 ho=>?_;have hlen:=hx.len;rw[hc.len (ho.hasM 2 rfl),List.length_reverse];simp only[rs];rw[wrap64_id (by omega) (by omega)];refine loop (fun vs W=>∃(i:Nat) (N:Mem),vs=[.int .i64 ((l.length:Int) - 1 - i)]∧i≤l.length∧M.le N∧Pg.inh d l key=Pg.inh d (l.drop i) key∧OwnS M.A w W [obE b6 ob0 nilS nilS,dcE b3 d vi tk tc,.mem N]) (fun vs _=>(RowKit.intOf (vs.getD 0 undef)+1).toNat)
  ⟨0,M,by simp,by omega,M.le_refl,rfl,ho⟩ ?_
 clear ho;rintro vs w4 ⟨i,N,rfl,hi,hle,he,ho⟩ _;simp only[S_foliantref35_inherited_0,gd,rs];by_cases hlt:(0:Int)≤(l.length:Int) - 1 - i
 ·have hi':i < l.length:=by omega
  have hj:l.length - 1 - i < l.reverse.length:=by rw[List.length_reverse];omega
  simp only[hlt,decide_true,i_t];have hji:l.reverse[l.length - 1 - i]=l[i]:=by
   rw[List.getElem_reverse];congr 1;omega
  have hnn:(l.length:Int) - 1 - i=((l.length - 1 - i:Nat):Int):=by omega
  simp only[hnn];have hwt:=hx.wt _ (List.getElem_mem hi');refine h_rat key 1 2 (by omega) ho rfl rfl hd (hda.le hle) (hc.le hle) hj (by rw[hji];exact hwt) fun b N2 yk yc W hle2 hy ho=>?_;rw[hji] at hy ho;have ho:OwnS M.A w W [obE b (Pg.val d l[i] key) yk yc,obE b6 ob0 nilS nilS,dcE b3 d vi tk tc,.mem N2]:=ho;rw[Pg.inh_drop hi'] at he;unfold S_foliantref35_inherited_1;rw[fa_o0,ob_k ho 0 rfl];simp only[rs];by_cases h0:(Pg.val d l[i] key).k=0
  ·rw[if_neg (by simp[h0])] at he;simp only[h0,ne_eq,not_true,decide_false,i_f];rw[wrap64_id (by omega) (by omega)];refine nextX ⟨i+1,N2,by rw[←hnn];congr 2;omega,by omega,hle.trans hle2,he,ho.tail⟩ ?_;simp only[List.getD_cons_zero,RowKit.intOf];omega
  ·rw[if_pos h0] at he;simp only[h0,ne_eq,not_false_eq_true,decide_true,i_t];rw[ob_v ho 0 rfl];refine ob_put 1 hy.oneK hy.oneC ho rfl fun w11 ho=>?_;exact ret_obi 1 ho rfl (hK _ _ N2 _ 3 ho rfl (hle.trans hle2) (by rw[he];exact hy))
 ·simp only[hlt,decide_false,i_f];rw[List.drop_eq_nil_of_le (by omega),Pg.inh] at he;refine c_below ho (R:=fun v=>v=obV (ob1 0 0 0 []) nilS nilS) (rnull_ret w4) ?_;rintro _ w5 rfl ho;refine ob_put 0 rfl rfl ho rfl fun w7 ho=>?_;refine ret_obi 0 ho rfl (hK _ _ N _ 2 ho rfl hle ?_);rw[he];exact ob0_ov N
end
section
open Eng Go.RowKit
theorem rcut35_ret (r s:Rc)(w:World):Ret prog 71 #[rcV r,rcV s] w (fun v w'=>v=.tuple #[rcV (Pg.cut r s),.bool (Pg.room (Pg.cut r s))]∧Below w.heap.size w w'):=by
 refine ret_of fun K hK=>S_foliantref35_cut_ok ?_;unfold S_foliantref35_cut;refine o_rcb r (Own.start w) fun b2 w1 ho=>?_;refine o_rcb s ho fun b3 w2 ho=>?_;refine o_rca ho fun b4 w3 ho=>?_;rw[fa_rc0,rc_0 ho 2 rfl,fa_rc0,rc_0 ho 1 rfl,m_max64,fa_rc1,rc_1 ho 2 rfl,fa_rc1,rc_1 ho 1 rfl,m_max64,fa_rc2,rc_2 ho 2 rfl,fa_rc2,rc_2 ho 1 rfl,m_min,fa_rc3,rc_3 ho 2 rfl,fa_rc3,rc_3 ho 1 rfl,m_min,m_rc];refine o_rca ho fun b6 w4 ho=>?_;refine rc_put (r':=Pg.cut r s) 0 ho rfl fun w5 ho=>?_;have ho:Own w w5 [rcE b6 (Pg.cut r s),rcE b4 Pg.rc0,rcE b3 s,rcE b2 r]:=ho;generalize hc:Pg.cut r s=c at *;have hd:=ho.drew;refine⟨fun W=>(rcE b6 c).is W,hd.at_ 0 rfl,?_⟩;refine hd_do (rcV c) (fun W h=>run_rcv h) ?_;refine hd_pure _ (fun _=>run_fa fo_rc0) (hd_do (.int .i64 c.x0) (fun W h=>run_load_cell nI64p (cells_cell (T:=43) h (i:=0) rfl)) ?_);refine hd_pure _ (fun _=>run_fa fo_rc2) (hd_do (.int .i64 c.x1) (fun W h=>run_load_cell nI64p (cells_cell (T:=43) h (i:=0+2) rfl)) (hd_lss ?_));have fin:∀(x:Bool) {PK:PKT},x=Pg.room c→DoX prog (mStore 43 (.pointer (some ⟨b4,0,none⟩)) (rcV c)) w5.drew PK fun _ w=>(rcE b6 c).is w∧RetX prog [.cell (.pointer (some ⟨b4,0,none⟩)) 43,.val (.bool x)] w K:=by
  rintro x PK rfl;refine rc_put 1 hd rfl fun w6 ho=>⟨ho.at_ 0 rfl,?_⟩;exact ret_rc2 1 ho rfl (hK _ _ ⟨rfl,ho.done⟩)
 unfold Pg.room at fin;by_cases hx:c.x0 < c.x1
 ·simp only[hx,decide_true,gq];refine hd_pure _ (fun _=>run_fa fo_rc1) (hd_do (.int .i64 c.y0) (fun W h=>run_load_cell nI64p (cells_cell (T:=43) h (i:=0+1) rfl)) ?_);refine hd_pure _ (fun _=>run_fa fo_rc3) (hd_do (.int .i64 c.y1) (fun W h=>run_load_cell nI64p (cells_cell (T:=43) h (i:=0+3) rfl)) (hd_lss (hd_pick ?_)));exact fin _ (by simp[hx])
 ·simp only[hx,decide_false,gq];refine hd_pick ?_;exact fin _ (by simp[hx])
theorem rroot35_ret (d:Dc)(dv:Value)(M:Mem)(w:World)(hd:Dk.Ok d)(h7:d.trailer.k=7)(hM:M.has w)(hdv:DV M.A M.w dv d) :
  RetM prog 96 #[dv] M w (fun r N=>OV N.A N.w r (Pg.root d)):=by
 obtain⟨vi,tk,tc,cs,rfl,hda⟩:=hdv;refine retM_of hM fun K hK=>S_foliantref35_Root_ok ?_;unfold S_foliantref35_Root;refine o_dcb d hda.items.one hda.trailer.oneK hda.trailer.oneC (OwnS.memS hM) fun b1 w1 ho=>?_;refine o_oba ho fun b2 w2 ho=>?_;rw[dc_v ho 1 rfl,fa_d1,dc_tr ho 1 rfl];refine o_str1M Dk.rootK 2 ho rfl fun sv N w3 hle hs ho=>?_;have ho:OwnS M.A w w3 [obE b2 ob0 nilS nilS,dcE b1 d vi tk tc,.mem N]:=ho;refine c_mem ho 2 rfl (rpath_ret d d.trailer [Dk.rootK] _ _ _ N w3 hd hd.trailer (by simp) (ho.hasM 2 rfl) (hda.le hle).dv (hda.trailer.le hle) hs) fun y N2 w4 hle2 hy ho=>?_;have e:Dk.path d (Dk.follow d d.trailer) [Dk.rootK]=Pg.root d:=by
  have e1:Dk.follow d d.trailer=d.trailer:=by unfold Dk.follow;rw[if_pos (by omega)]
  rw[e1];unfold Pg.root Dk.root Dk.path;cases Vl.get d.trailer Dk.rootK with
 |none=>show Vl.ob0=Dk.follow d Vl.ob0;unfold Dk.follow;rw[if_pos (by decide)]
 |some v=>rfl
 rw[e] at hy;obtain⟨yk,yc,ycs,rfl,hya⟩:=hy.open;refine ob_put 0 hya.keys.one hya.kids.one ho rfl fun w5 ho=>?_;exact ret_obi 0 ho rfl (hK _ _ N2 _ 2 ho rfl (hle.trans hle2) hy)
theorem Pg.root_wt {d:Dc}(hd:Dk.Ok d):(Pg.root d).wt≤1000000000:=by
 refine Dk.follow_wt hd ?_;unfold Dk.root;have:=Vl.get_wt (o:=d.trailer) (key:=Dk.rootK);have:=hd.trailer;omega
theorem Pg.first_wt {d:Dc}(hd:Dk.Ok d):(Pg.first d).wt≤1000000000:=by
 have:=Vl.get_wt (o:=Pg.root d) (key:=Pg.pagesN);have:=Pg.root_wt hd;unfold Pg.first
 omega
theorem rfirst35_ret (d:Dc)(dv:Value)(M:Mem)(w:World)(hd:Dk.Ok d)(h7:d.trailer.k=7)(hM:M.has w)(hdv:DV M.A M.w dv d) :
  RetM prog 69 #[dv] M w (fun r N=>OV N.A N.w r (Pg.first d)):=by
 obtain⟨vi,tk,tc,cs,rfl,hda⟩:=hdv;refine retM_of hM fun K hK=>S_foliantref35_First_ok ?_;unfold S_foliantref35_First;refine o_dcb d hda.items.one hda.trailer.oneK hda.trailer.oneC (OwnS.memS hM) fun b1 w1 ho=>?_;refine o_oba ho fun b2 w2 ho=>?_;rw[dc_v ho 1 rfl];refine c_mem ho 2 rfl (rroot35_ret d _ M w2 hd h7 (ho.hasM 2 rfl) hda.dv) fun y N w3 hle hy ho=>?_;refine c_mem ho 2 rfl (rget_ret (Pg.root d) y Pg.pagesN N w3 (by have:=Pg.root_wt hd;omega) (ho.hasM 2 rfl) hy) ?_;rintro _ N2 w4 hle2 ⟨x,rfl,hx⟩ ho;rw[show ((Vl.get (Pg.root d) Pg.pagesN).getD Vl.ob0)=Pg.first d from rfl] at hx;obtain⟨xk,xc,xcs,rfl,hxa⟩:=hx.open;simp only[getV,ex];refine o_oba ho fun b3 w5 ho=>?_;refine ob_put 0 hxa.keys.one hxa.kids.one ho rfl fun w6 ho=>?_;rw[ob_v ho 0 rfl];refine ob_put 1 hxa.keys.one hxa.kids.one ho rfl fun w7 ho=>?_;exact ret_obi 1 ho rfl (hK _ _ N2 _ 3 ho rfl (hle.trans hle2) hx)
theorem ret_pg2 {S:Nat→Prop}{w0 w:World}{L:List Ent}{K:Ending→World→Prop}{b:Nat}{p:Pge}{vk vc x:Value}(i:Nat)(ho:OwnS S w0 w L)(hi:L[i]?=some (pgE b p vk vc))(k:K (.returned (.tuple #[pgV p vk vc,x])) w):RetX prog [.cell (.pointer (some ⟨b,0,none⟩)) 48,.val x] w K:=
 ret_v2 (rv_cell (ho.agg i hi aggPg)) rv_val k
theorem pv0 (N:Mem):PV N.A N.w (pgV Pg.pge0 nilS nilS) Pg.pge0:=⟨nilS,nilS,rfl,ob0_ov N⟩
theorem Pg.inh_wt {d:Dc}(hd:Dk.Ok d){l:List Ob}(h:∀o∈l,o.wt≤1000000000)(key:List UInt8):(Pg.inh d l key).wt≤1000000000:=by
 induction l with
|nil=>rw[Pg.inh,ob0_wt];omega
|cons o l ih=>
  rw[Pg.inh];split
  ·exact Pg.val_wt hd key (h o (List.mem_cons_self ..))
  ·exact ih fun x hx=>h x (List.mem_cons_of_mem _ hx)
theorem Pg.page_steps (d:Dc)(x:Lf):Pg.page d x =
  if (Pg.rect d (Pg.inh d x.chain Pg.mediaK)).2≠0 then (Pg.pge0,24)
  else if (Pg.inh d x.chain Pg.cropK).k≠0∧(Pg.rect d (Pg.inh d x.chain Pg.cropK)).2≠0 then (Pg.pge0,24)
  else if (Pg.inh d x.chain Pg.rotK).k≠0∧((Pg.inh d x.chain Pg.rotK).k≠2∨(Pg.inh d x.chain Pg.rotK).n.tmod 90≠0) then (Pg.pge0,24)
  else if (Pg.inh d x.chain Pg.resK).k≠0∧(Pg.inh d x.chain Pg.resK).k≠7 then (Pg.pge0,24)
  else (⟨x.num,(Pg.rect d (Pg.inh d x.chain Pg.mediaK)).1,Pg.cropB d (Pg.inh d x.chain Pg.cropK) (Pg.rect d (Pg.inh d x.chain Pg.mediaK)).1,
   if (Pg.inh d x.chain Pg.rotK).k≠0 then Pg.turn (Pg.inh d x.chain Pg.rotK).n else 0,if (Pg.inh d x.chain Pg.resK).k≠0 then Pg.inh d x.chain Pg.resK else Pg.dict0⟩,0):=rfl
theorem Pg.dict0_ov (N:Mem):OV N.A N.w (obV Pg.dict0 nilS nilS) Pg.dict0:=ObAt.ov (cs:=[]) ⟨SlA.nil _ _ _ _,SlA.nil _ _ _ _,.nil⟩
theorem Pg.tmod_bd (n:Int):-360 < n.tmod 360∧n.tmod 360 < 360:=by
 rw[Int.tmod_eq_emod];split<;>omega
theorem ppage_ret (d:Dc)(x:Lf)(dv cv:Value)(M:Mem)(w:World)(hd:Dk.Ok d)(hx:ChOk x.chain)(hM:M.has w)(hdv:DV M.A M.w dv d)(hc:Chn M.A M.w cv x.chain) :
  RetM prog 36 #[lfV x cv,dv] M w (fun r N=>∃v',r=errV v' (Pg.page d x).2∧PV N.A N.w v' (Pg.page d x).1):=by
 obtain⟨vi,tk,tc,cs,rfl,hda⟩:=hdv;refine retM_of hM fun K hK=>S_pages_leaf_page_ok ?_;unfold S_pages_leaf_page;have hps:=Pg.page_steps d x;have iw:=fun key=>Pg.inh_wt hd hx.wt key;generalize hpg:Pg.page d x=pg at hps hK;clear hpg;refine o_lfb x hc.one (OwnS.memS hM) fun b2 w1 ho=>?_;refine o_dcb d hda.items.one hda.trailer.oneK hda.trailer.oneC ho fun b3 w2 ho=>?_;refine o_pga ho fun b4 w3 ho=>?_;rw[fa_lf0,lf_num ho 2 rfl,m_dict,m_pgN];refine o_pga ho fun b6 w4 ho=>?_;refine pg_put 0 rfl rfl ho rfl fun w5 ho=>?_;have no:∀{W:World} {N:Mem} {L:List Ent} {p:Pge} {pk pc:Value},M.le N→OwnS M.A w W (L++[pgE b6 p pk pc,pgE b4 Pg.pge0 nilS nilS,dcE b3 d vi tk tc,lfE b2 x cv,.mem N])→pg=(Pg.pge0,24) →
   DoX prog (mBuild 48 #[]) W (Eng.pk K) (fun t W=>DoX prog (mStore 48 (.pointer (some ⟨b4,0,none⟩)) t) W (Eng.pk K) fun _ W=>RetX prog [.cell (.pointer (some ⟨b4,0,none⟩)) 48,.val (.int .i64 24)] W K):=by
  intro W N L p pk pc hle ho he;rw[m_pg0];have hl:(L++[pgE b6 p pk pc,pgE b4 Pg.pge0 nilS nilS,dcE b3 d vi tk tc,lfE b2 x cv,.mem N])[L.length+1]?=some (pgE b4 Pg.pge0 nilS nilS):=by rw[List.getElem?_append_right (by omega)];simp
  refine pg_put (L.length+1) rfl rfl ho hl fun w6 ho=>?_;have hl2:L.length+1 < (L++[pgE b6 p pk pc,pgE b4 Pg.pge0 nilS nilS,dcE b3 d vi tk tc,lfE b2 x cv,.mem N]).length:=by simp
  refine ret_pg2 (L.length+1) ho (by rw[List.getElem?_set_self hl2]) (hK _ _ N _ (L.length+4) ho ?_ hle ⟨_,by rw[he];rfl,by rw[he];exact pv0 N⟩);rw[List.getElem?_set_ne (by omega),List.getElem?_append_right (by omega)];simp
 have ho:OwnS M.A w w5 [pgE b6 ⟨x.num,Pg.rc0,Pg.rc0,0,Pg.dict0⟩ nilS nilS,pgE b4 Pg.pge0 nilS nilS,dcE b3 d vi tk tc,lfE b2 x cv,.mem M]:=ho;rw[lf_v ho 3 rfl,dc_v ho 2 rfl];refine c_mem ho 4 rfl (pinh_ret d x _ cv Pg.mediaK M w5 hd hx (ho.hasM 4 rfl) hda.dv hc) ?_;rintro _ N w6 hle ⟨m,rfl,hm⟩ ho;obtain⟨mk,mc,mcs,rfl,hma⟩:=hm.open;simp only[getV,ex];refine o_oba ho fun b7 w7 ho=>?_;refine ob_put 0 hma.keys.one hma.kids.one ho rfl fun w8 ho=>?_;rw[dc_v ho 3 rfl,ob_v ho 0 rfl];refine c_below ho (R:=fun v=>v=rectV (Pg.rect d (Pg.inh d x.chain Pg.mediaK))) (RetM.told (prect_ret d _ _ _ N w8 hd (iw _) (ho.hasM 5 rfl) (hda.le hle).dv hm)) ?_;rintro _ w9 rfl ho;simp only[rectV,ex];rw[fa_pg1];refine pg_putM 1 ho rfl fun w10 ho=>?_;have ho:OwnS M.A w w10 [obE b7 (Pg.inh d x.chain Pg.mediaK) mk mc,pgE b6 ⟨x.num,(Pg.rect d (Pg.inh d x.chain Pg.mediaK)).1,Pg.rc0,0,Pg.dict0⟩ nilS nilS,pgE b4 Pg.pge0 nilS nilS,dcE b3 d vi tk tc,lfE b2 x cv,.mem N]:=ho;rw[n_err];generalize hrm:Pg.rect d (Pg.inh d x.chain Pg.mediaK)=rm at *;by_cases e1:rm.2=0
 case neg=>
  simp only[e1,ne_eq,not_false_eq_true,decide_true,i_t];exact no (L:=[_]) hle ho (by rw[hps,if_pos e1])
 rw[if_neg (by simp[e1])] at hps;simp only[e1,ne_eq,not_true,decide_false,i_f];rw[fa_pg1,pg_media ho 1 rfl,fa_pg2];refine pg_putC 1 ho rfl fun w11 ho=>?_;have ho:OwnS M.A w w11 [pgE b6 ⟨x.num,rm.1,rm.1,0,Pg.dict0⟩ nilS nilS,pgE b4 Pg.pge0 nilS nilS,dcE b3 d vi tk tc,lfE b2 x cv,.mem N]:=ho.tail
 -- behind the resources
 have fin2:∀{W:World} {N:Mem} {p:Pge} {pk pc:Value},M.le N→OV N.A N.w (obV p.res pk pc) p.res→OwnS M.A w W [pgE b6 p pk pc,pgE b4 Pg.pge0 nilS nilS,dcE b3 d vi tk tc,lfE b2 x cv,.mem N]→pg=(p,0) →
   S_pages_leaf_page_2 (.pointer (some ⟨b4,0,none⟩)) (.pointer (some ⟨b6,0,none⟩)) W K:=by
  intro W N p pk pc hle hr ho he;unfold S_pages_leaf_page_2;rw[pg_v ho 0 rfl];refine pg_put 1 hr.oneK hr.oneC ho rfl fun w6 ho=>?_;exact ret_pg2 1 ho rfl (hK _ _ N _ 4 ho rfl hle ⟨_,by rw[he];rfl,by rw[he];exact⟨pk,pc,rfl,hr⟩⟩)
 -- behind the rotation
 have fin1:∀{W:World} {N:Mem} {z:Value} {r1 r2:Rc} {n:Int},M.le N→OwnS M.A w W [pgE b6 ⟨x.num,r1,r2,n,Pg.dict0⟩ nilS nilS,pgE b4 Pg.pge0 nilS nilS,dcE b3 d vi tk tc,lfE b2 x cv,.mem N] →
   pg=(if (Pg.inh d x.chain Pg.resK).k≠0∧(Pg.inh d x.chain Pg.resK).k≠7 then (Pg.pge0,24) else (⟨x.num,r1,r2,n,if (Pg.inh d x.chain Pg.resK).k≠0 then Pg.inh d x.chain Pg.resK else Pg.dict0⟩,0)) →
   S_pages_leaf_page_1 (.pointer (some ⟨b2,0,none⟩)) (.pointer (some ⟨b3,0,none⟩)) (.pointer (some ⟨b4,0,none⟩)) z (.pointer (some ⟨b6,0,none⟩)) W K:=by
  intro W N z r1 r2 n hle ho he;unfold S_pages_leaf_page_1;refine join fun J3 hJ3=>?_;rw[lf_v ho 3 rfl,dc_v ho 2 rfl];refine c_mem ho 4 rfl (pinh_ret d x _ cv Pg.resK N W hd hx (ho.hasM 4 rfl) (hda.le hle).dv (hc.le hle)) ?_;rintro _ N2 w6 hle2 ⟨m,rfl,hm⟩ ho;obtain⟨mk,mc,mcs,rfl,hma⟩:=hm.open;simp only[getV,ex];refine o_oba ho fun b7 w7 ho=>?_;refine ob_put 0 hma.keys.one hma.kids.one ho rfl fun w8 ho=>?_;by_cases h0:(Pg.inh d x.chain Pg.resK).k=0
  ·rw[if_neg (by simp[h0]),if_neg (by simp[h0])] at he;simp only[h0,ne_eq,not_true,decide_false,i_f];refine hJ3 _ _ fun _=>?_;exact fin2 (pk:=nilS) (pc:=nilS) (hle.trans hle2) (Pg.dict0_ov N2) ho.tail he
  ·simp only[h0,ne_eq,not_false_eq_true,decide_true,i_t];rw[fa_o0,ob_k ho 0 rfl];simp only[rs];by_cases h7:(Pg.inh d x.chain Pg.resK).k=7
   ·rw[if_neg (by simp[h7]),if_pos h0] at he;simp only[h7,ne_eq,not_true,decide_false,i_f];rw[ob_v ho 0 rfl,fa_pg4];refine pg_putO 1 hma.keys.one hma.kids.one ho rfl fun w9 ho=>?_;refine hJ3 _ _ fun _=>?_;exact fin2 (p:=⟨x.num,r1,r2,n,Pg.inh d x.chain Pg.resK⟩) (hle.trans hle2) hm ho.tail he
   ·rw[if_pos ⟨h0,h7⟩] at he;simp only[h7,ne_eq,not_false_eq_true,decide_true,i_t];exact no (L:=[_]) (hle.trans hle2) ho he
 -- behind the crop box
 have fin0:∀{W:World} {N:Mem} {z:Value} {r1 r2:Rc},M.le N→OwnS M.A w W [pgE b6 ⟨x.num,r1,r2,0,Pg.dict0⟩ nilS nilS,pgE b4 Pg.pge0 nilS nilS,dcE b3 d vi tk tc,lfE b2 x cv,.mem N] →
   pg=(if (Pg.inh d x.chain Pg.rotK).k≠0∧((Pg.inh d x.chain Pg.rotK).k≠2∨(Pg.inh d x.chain Pg.rotK).n.tmod 90≠0) then (Pg.pge0,24) else if (Pg.inh d x.chain Pg.resK).k≠0∧(Pg.inh d x.chain Pg.resK).k≠7 then (Pg.pge0,24) else (⟨x.num,r1,r2,if (Pg.inh d x.chain Pg.rotK).k≠0 then Pg.turn (Pg.inh d x.chain Pg.rotK).n else 0,if (Pg.inh d x.chain Pg.resK).k≠0 then Pg.inh d x.chain Pg.resK else Pg.dict0⟩,0)) →
   S_pages_leaf_page_0 (.pointer (some ⟨b2,0,none⟩)) (.pointer (some ⟨b3,0,none⟩)) (.pointer (some ⟨b4,0,none⟩)) z (.pointer (some ⟨b6,0,none⟩)) W K:=by
  intro W N z r1 r2 hle ho he;unfold S_pages_leaf_page_0;refine join fun J2 hJ2=>?_;rw[lf_v ho 3 rfl,dc_v ho 2 rfl];refine c_mem ho 4 rfl (pinh_ret d x _ cv Pg.rotK N W hd hx (ho.hasM 4 rfl) (hda.le hle).dv (hc.le hle)) ?_;rintro _ N2 w6 hle2 ⟨m,rfl,hm⟩ ho;obtain⟨mk,mc,mcs,rfl,hma⟩:=hm.open;simp only[getV,ex];refine o_oba ho fun b7 w7 ho=>?_;refine ob_put 0 hma.keys.one hma.kids.one ho rfl fun w8 ho=>?_;by_cases h0:(Pg.inh d x.chain Pg.rotK).k=0
  ·rw[if_neg (by simp[h0]),if_neg (show ¬(Pg.inh d x.chain Pg.rotK).k≠0 by simp[h0])] at he;simp only[h0,ne_eq,not_true,decide_false,i_f];refine hJ2 _ _ fun _=>?_;simp only[gd];exact fin1 (hle.trans hle2) ho.tail he
  ·simp only[h0,ne_eq,not_false_eq_true,decide_true,i_t];rw[fa_o0,ob_k ho 0 rfl];simp only[rs];by_cases h2:(Pg.inh d x.chain Pg.rotK).k=2
   case neg=>
    rw[if_pos ⟨h0,.inl h2⟩] at he;simp only[h2,ne_eq,not_false_eq_true,decide_true,rs,g_un];exact no (L:=[_]) (hle.trans hle2) ho he
   simp only[h2,ne_eq,not_true,decide_false,rs,fa_o1,ob_n ho 0 rfl];rw[b_rem (by omega)];simp only[rs];by_cases h9:(Pg.inh d x.chain Pg.rotK).n.tmod 90=0
   case neg=>
    rw[if_pos ⟨h0,.inr h9⟩] at he;simp only[h9,ne_eq,not_false_eq_true,decide_true,rs];exact no (L:=[_]) (hle.trans hle2) ho he
   rw[if_neg (by simp[h2,h9]),if_pos h0] at he;simp only[h9,ne_eq,not_true,decide_false,rs,fa_o1,ob_n ho 0 rfl];have hb:=Pg.tmod_bd (Pg.inh d x.chain Pg.rotK).n;rw[b_rem (by omega)];simp only[rs];rw[wrap64_id (by omega) (by omega),b_rem (by omega),fa_pg3];refine pg_putR 1 ho rfl fun w9 ho=>?_;refine hJ2 _ _ fun _=>?_;simp only[gd];exact fin1 (hle.trans hle2) ho.tail he
 refine join fun J1 hJ1=>?_;have jn:∀{W:World} {N:Mem} {z:Value} {r2:Rc},M.le N→OwnS M.A w W [pgE b6 ⟨x.num,rm.1,r2,0,Pg.dict0⟩ nilS nilS,pgE b4 Pg.pge0 nilS nilS,dcE b3 d vi tk tc,lfE b2 x cv,.mem N] →
   (¬((Pg.inh d x.chain Pg.cropK).k≠0∧(Pg.rect d (Pg.inh d x.chain Pg.cropK)).2≠0))→r2=Pg.cropB d (Pg.inh d x.chain Pg.cropK) rm.1→J1 [z] W:=by
  intro W N z r2 hle ho h1 h2;refine hJ1 _ _ fun _=>?_;simp only[gd];rw[if_neg h1,←h2] at hps;exact fin0 hle ho hps
 rw[lf_v ho 3 rfl,dc_v ho 2 rfl];refine c_mem ho 4 rfl (pinh_ret d x _ cv Pg.cropK N w11 hd hx (ho.hasM 4 rfl) (hda.le hle).dv (hc.le hle)) ?_;rintro _ N2 w12 hle2 ⟨m,rfl,hm⟩ ho;obtain⟨ck,cc,ccs,rfl,hca⟩:=hm.open;simp only[getV,ex];refine o_oba ho fun b10 w13 ho=>?_;refine ob_put 0 hca.keys.one hca.kids.one ho rfl fun w14 ho=>?_;by_cases h0:(Pg.inh d x.chain Pg.cropK).k=0
 ·simp only[h0,ne_eq,not_true,decide_false,i_f];exact jn (hle.trans hle2) ho.tail (by simp[h0]) (by unfold Pg.cropB;rw[if_neg (by simp[h0])])
 simp only[h0,ne_eq,not_false_eq_true,decide_true,i_t];have ho:OwnS M.A w w14 [obE b10 (Pg.inh d x.chain Pg.cropK) ck cc,pgE b6 ⟨x.num,rm.1,rm.1,0,Pg.dict0⟩ nilS nilS,pgE b4 Pg.pge0 nilS nilS,dcE b3 d vi tk tc,lfE b2 x cv,.mem N2]:=ho;rw[dc_v ho 3 rfl,ob_v ho 0 rfl];refine c_below ho (R:=fun v=>v=rectV (Pg.rect d (Pg.inh d x.chain Pg.cropK))) (RetM.told (prect_ret d _ _ _ N2 w14 hd (iw _) (ho.hasM 5 rfl) (hda.le (hle.trans hle2)).dv hm)) ?_;rintro _ w15 rfl ho;simp only[rectV,ex];refine o_rca ho fun b12 w16 ho=>?_;refine rc_put 0 ho rfl fun w17 ho=>?_;rw[n_err];generalize hrc:Pg.rect d (Pg.inh d x.chain Pg.cropK)=rc at *;by_cases e2:rc.2=0
 case neg=>
  simp only[e2,ne_eq,not_false_eq_true,decide_true,i_t];exact no (L:=[_,_]) (hle.trans hle2) ho (by rw[hps,if_pos ⟨h0,e2⟩])
 simp only[e2,ne_eq,not_true,decide_false,i_f];rw[rc_v ho 0 rfl,fa_pg1,pg_media ho 2 rfl];refine c_below ho (R:=fun v=>v=.tuple #[rcV (Pg.cut rc.1 rm.1),.bool (Pg.room (Pg.cut rc.1 rm.1))]) (pcut_ret rc.1 rm.1 w17) ?_;rintro _ w18 rfl ho;simp only[ex];refine o_rca ho fun b14 w19 ho=>?_;refine rc_put 0 ho rfl fun w20 ho=>?_;have hcb:∀b,Pg.room (Pg.cut rc.1 rm.1)=b→Pg.cropB d (Pg.inh d x.chain Pg.cropK) rm.1=if b=true then Pg.cut rc.1 rm.1 else rm.1:=by
  rintro b rfl;unfold Pg.cropB;rw[if_pos h0,hrc]
 cases hroom:Pg.room (Pg.cut rc.1 rm.1) with
|true=>
  simp only[i_t];rw[rc_v ho 0 rfl,fa_pg2];refine pg_putC 3 ho rfl fun w21 ho=>?_;exact jn (hle.trans hle2) ho.tail.tail.tail (by simp[e2]) (by rw[hcb true hroom];rfl)
|false=>
  simp only[i_f];exact jn (hle.trans hle2) ho.tail.tail.tail (by simp[e2]) (by rw[hcb false hroom];rfl)
end
section
open Eng Go.RowKit
def rlV (x:Lf)(v:Value):Value:=.agg (lfC x v).toArray
def rlE (b:Nat)(x:Lf)(v:Value):Ent:=.cells b (lfC x v) 83
def rlR (A:Nat→Prop)(w:World)(a:List Value)(x:Lf):Prop:=∃v,a=lfC x v∧Chn A w v x.chain.reverse
abbrev RVs (A:Nat→Prop)(w:World)(cs:List Value)(l:List Lf):Prop:=Rws (rlR A w) cs l
theorem rlR.le {M N:Mem}(h:M.le N){a:List Value}{x:Lf}(hx:rlR M.A M.w a x):rlR N.A N.w a x:=by
 obtain⟨v,rfl,hc⟩:=hx;exact⟨v,rfl,hc.le h⟩
theorem RVs.le {M N:Mem}(h:M.le N){cs:List Value}{l:List Lf}(hl:RVs M.A M.w cs l):RVs N.A N.w cs l:=Rws.mono (fun _ _=>rlR.le h) hl
theorem rlR_len {A:Nat→Prop}{w:World}:∀a x,rlR A w a x→a.length=2:=by
 rintro a x ⟨v,rfl,_⟩;rfl
theorem RVs.one {A:Nat→Prop}{w:World}:∀{cs:List Value} {l:List Lf},RVs A w cs l→∀x∈cs,x.oneCell'=true
|_,_,.nil=>by intro x hx;cases hx
|_,_,.cons h t=>by
  obtain⟨v,rfl,hc⟩:=h;intro x hx;rcases List.mem_append.1 hx with hx|hx
  ·exact lfC_one _ hc.one x hx
  ·exact RVs.one t x hx
theorem aggRl:aggN prog 83=some 2:=by kernel_rfl
theorem szRl:(Tryz.prog.info? 83).map (·.size)=some 2:=by kernel_rfl
theorem nSlRl:notAgg prog 78=true:=by kernel_rfl
theorem elRl:elB prog 83 2 32=true:=by kernel_rfl
theorem fo_rl0:fOff prog 83 0=some 0:=by kernel_rfl
theorem fo_rl1:fOff prog 83 1=some 1:=by kernel_rfl
section
variable {w:World}{PK:PKT}{K:VWP}{S:Nat→Prop}{w0:World}{L:List Ent}
theorem fa_rl0 {b off:Nat}:DoX prog (mFA 83 (.pointer (some ⟨b,off,none⟩)) 0) w PK K=K (.pointer (some ⟨b,off,none⟩)) w:=f_addr fo_rl0
theorem fa_rl1 {b off:Nat}:DoX prog (mFA 83 (.pointer (some ⟨b,off,none⟩)) 1) w PK K=K (.pointer (some ⟨b,off+1,none⟩)) w:=f_addr fo_rl1
theorem o_rlb (x:Lf){v:Value}(h:v.oneCell'=true)(ho:OwnS S w0 w L)(k:∀b w',OwnS S w0 w' (rlE b x v::L)→K (.pointer (some ⟨b,0,none⟩)) w'):DoX prog (mBox 83 (rlV x v)) w PK K:=by
 cases v<;>first|(cases h;done)|exact o_new (fun b=>.pointer (some ⟨b,0,none⟩)) (lfC x _) 83 (fun _=>by kernel_rfl) ho k
theorem rl_num (ho:OwnS S w0 w L)(j:Nat){b:Nat}{x:Lf}{v:Value}(hi:L[j]?=some (rlE b x v)):DoX prog (mLoad 3 (.pointer (some ⟨b,0,none⟩))) w PK K=K (.int .i64 x.num) w:=l_cell nInt5 (ho.cell j hi 0 rfl)
theorem rl_way (ho:OwnS S w0 w L)(j:Nat){b:Nat}{x:Lf}{v:Value}(hi:L[j]?=some (rlE b x v)):DoX prog (mLoad 24 (.pointer (some ⟨b,0+1,none⟩))) w PK K=K v w:=l_cell nSlObP (ho.cell j hi 1 rfl)
theorem m_pgR {n:Int}{r s:Rc}:DoX prog (mBuild 48 #[(0,.int .i64 n),(1,rcV r),(2,rcV s),(4,obV Pg.dict0 nilS nilS)]) w PK K=K (pgV ⟨n,r,s,0,Pg.dict0⟩ nilS nilS) w:=do_eq (by kernel_rfl)
end
theorem run_rlway {W:World}{b:Nat}{x:Lf}{v:Value}(h:(rlE b x v).is W):(mLoad 24 (.pointer (some ⟨b,0+1,none⟩))).run prog W=.ok (.value v) W:=run_load_cell nSlObP (cells_cell (T:=83) h (i:=0+1) rfl)
theorem hd_ext {P:Program}{C:World→Prop}{K:Value→Prop}{a b:Value}(h:K a):HDo P C (mExt (.tuple #[a,b]) 0) K:=hd_pure a (fun _=>rfl) h
theorem hd_ext1 {P:Program}{C:World→Prop}{K:Value→Prop}{a b:Value}(h:K b):HDo P C (mExt (.tuple #[a,b]) 1) K:=hd_pure b (fun _=>rfl) h
theorem rpage35_ret (d:Dc)(x:Lf)(dv cv:Value)(M:Mem)(w:World)(hd:Dk.Ok d)(hx:ChOk x.chain)(hM:M.has w)(hdv:DV M.A M.w dv d)(hc:Chn M.A M.w cv x.chain.reverse) :
  RetM prog 38 #[dv,rlV x cv] M w (fun r N=>∃v',r=errV v' (Pg.page d x).2∧PV N.A N.w v' (Pg.page d x).1):=by
 obtain⟨vi,tk,tc,cs,rfl,hda⟩:=hdv;refine retM_of hM fun K hK=>S_foliantref35_Page_ok ?_;unfold S_foliantref35_Page;have hps:=Pg.page_steps d x;have iw:=fun key=>Pg.inh_wt hd hx.wt key;generalize hpg:Pg.page d x=pg at hps hK;clear hpg;refine o_dcb d hda.items.one hda.trailer.oneK hda.trailer.oneC (OwnS.memS hM) fun b2 w1 ho=>?_;refine o_rlb x hc.one ho fun b3 w2 ho=>?_;refine o_pga ho fun b4 w3 ho=>?_;have no:∀{W:World} {N:Mem} {L:List Ent},M.le N→OwnS M.A w W (L++[pgE b4 Pg.pge0 nilS nilS,rlE b3 x cv,dcE b2 d vi tk tc,.mem N])→pg=(Pg.pge0,24) →
   DoX prog (mBuild 48 #[]) W (Eng.pk K) (fun t W=>DoX prog (mStore 48 (.pointer (some ⟨b4,0,none⟩)) t) W (Eng.pk K) fun _ W=>RetX prog [.cell (.pointer (some ⟨b4,0,none⟩)) 48,.val (.int .i64 24)] W K):=by
  intro W N L hle ho he;rw[m_pg0];have hl:(L++[pgE b4 Pg.pge0 nilS nilS,rlE b3 x cv,dcE b2 d vi tk tc,.mem N])[L.length]?=some (pgE b4 Pg.pge0 nilS nilS):=by rw[List.getElem?_append_right (Nat.le_refl _)];simp
  refine pg_put L.length rfl rfl ho hl fun w6 ho=>?_;have hl2:L.length < (L++[pgE b4 Pg.pge0 nilS nilS,rlE b3 x cv,dcE b2 d vi tk tc,.mem N]).length:=by simp
  refine ret_pg2 L.length ho (by rw[List.getElem?_set_self hl2]) (hK _ _ N _ (L.length+3) ho ?_ hle ⟨_,by rw[he];rfl,by rw[he];exact pv0 N⟩);rw[List.getElem?_set_ne (by omega),List.getElem?_append_right (by omega)];simp
 generalize hrm:Pg.rect d (Pg.inh d x.chain Pg.mediaK)=rm at *
 -- behind the media box
 have main:∀{W:World} {N:Mem} {b6:Nat},M.le N→OwnS M.A w W [rcE b6 rm.1,pgE b4 Pg.pge0 nilS nilS,rlE b3 x cv,dcE b2 d vi tk tc,.mem N] →
   S_foliantref35_Page_0 (.pointer (some ⟨b2,0,none⟩)) (.pointer (some ⟨b3,0,none⟩)) (.pointer (some ⟨b4,0,none⟩)) (.int .i64 0) (.pointer (some ⟨b6,0,none⟩)) (.int .i64 rm.2) W K:=by
  intro W N b6 hle ho;unfold S_foliantref35_Page_0;rw[n_err];by_cases e1:rm.2=0
  case neg=>
   simp only[e1,ne_eq,not_false_eq_true,decide_true,i_t];exact no (L:=[_]) hle ho (by rw[hps,if_pos e1])
  rw[if_neg (by simp[e1])] at hps;simp only[e1,ne_eq,not_true,decide_false,i_f];rw[fa_rl0,rl_num ho 2 rfl,rc_v ho 0 rfl,rc_v ho 0 rfl,m_dict,m_pgR];refine o_pga ho fun b8 w10 ho=>?_;refine pg_put 0 rfl rfl ho rfl fun w11 ho=>?_;have ho:OwnS M.A w w11 [pgE b8 ⟨x.num,rm.1,rm.1,0,Pg.dict0⟩ nilS nilS,rcE b6 rm.1,pgE b4 Pg.pge0 nilS nilS,rlE b3 x cv,dcE b2 d vi tk tc,.mem N]:=ho
  -- behind the resources
  have fin2:∀{W:World} {N:Mem} {p:Pge} {pk pc:Value},M.le N→OV N.A N.w (obV p.res pk pc) p.res→OwnS M.A w W [pgE b8 p pk pc,rcE b6 rm.1,pgE b4 Pg.pge0 nilS nilS,rlE b3 x cv,dcE b2 d vi tk tc,.mem N]→pg=(p,0) →
    S_foliantref35_Page_3 (.pointer (some ⟨b4,0,none⟩)) (.pointer (some ⟨b8,0,none⟩)) W K:=by
   intro W N p pk pc hle hr ho he;unfold S_foliantref35_Page_3;rw[pg_v ho 0 rfl];refine pg_put 2 hr.oneK hr.oneC ho rfl fun w6 ho=>?_;exact ret_pg2 2 ho rfl (hK _ _ N _ 5 ho rfl hle ⟨_,by rw[he];rfl,by rw[he];exact⟨pk,pc,rfl,hr⟩⟩)
  -- behind the rotation
  have fin1:∀{W:World} {N:Mem} {z:Value} {r1 r2:Rc} {n:Int},M.le N→OwnS M.A w W [pgE b8 ⟨x.num,r1,r2,n,Pg.dict0⟩ nilS nilS,rcE b6 rm.1,pgE b4 Pg.pge0 nilS nilS,rlE b3 x cv,dcE b2 d vi tk tc,.mem N] →
    pg=(if (Pg.inh d x.chain Pg.resK).k≠0∧(Pg.inh d x.chain Pg.resK).k≠7 then (Pg.pge0,24) else (⟨x.num,r1,r2,n,if (Pg.inh d x.chain Pg.resK).k≠0 then Pg.inh d x.chain Pg.resK else Pg.dict0⟩,0)) →
    S_foliantref35_Page_2 (.pointer (some ⟨b2,0,none⟩)) (.pointer (some ⟨b3,0,none⟩)) (.pointer (some ⟨b4,0,none⟩)) z (.pointer (some ⟨b8,0,none⟩)) W K:=by
   intro W N z r1 r2 n hle ho he;unfold S_foliantref35_Page_2;refine join fun J3 hJ3=>?_;rw[dc_v ho 4 rfl,fa_rl1,rl_way ho 3 rfl];refine c_mem ho 5 rfl (rinh_ret d x.chain _ cv Pg.resK N W hd hx (ho.hasM 5 rfl) (hda.le hle).dv (hc.le hle)) fun m N2 w6 hle2 hm ho=>?_;obtain⟨mk,mc,mcs,rfl,hma⟩:=hm.open;refine o_oba ho fun b7 w7 ho=>?_;refine ob_put 0 hma.keys.one hma.kids.one ho rfl fun w8 ho=>?_;rw[fa_o0,ob_k ho 0 rfl];simp only[rs];by_cases h0:(Pg.inh d x.chain Pg.resK).k=0
   ·rw[if_neg (by simp[h0]),if_neg (by simp[h0])] at he;simp only[h0,ne_eq,not_true,decide_false,i_f];refine hJ3 _ _ fun _=>?_;exact fin2 (pk:=nilS) (pc:=nilS) (hle.trans hle2) (Pg.dict0_ov N2) ho.tail he
   ·simp only[h0,ne_eq,not_false_eq_true,decide_true,i_t];rw[fa_o0,ob_k ho 0 rfl];simp only[rs];by_cases h7:(Pg.inh d x.chain Pg.resK).k=7
    ·rw[if_neg (by simp[h7]),if_pos h0] at he;simp only[h7,ne_eq,not_true,decide_false,i_f];rw[ob_v ho 0 rfl,fa_pg4];refine pg_putO 1 hma.keys.one hma.kids.one ho rfl fun w9 ho=>?_;refine hJ3 _ _ fun _=>?_;exact fin2 (p:=⟨x.num,r1,r2,n,Pg.inh d x.chain Pg.resK⟩) (hle.trans hle2) hm ho.tail he
    ·rw[if_pos ⟨h0,h7⟩] at he;simp only[h7,ne_eq,not_false_eq_true,decide_true,i_t];exact no (L:=[_,_,_]) (hle.trans hle2) ho he
  -- behind the crop box
  have fin0:∀{W:World} {N:Mem} {z:Value} {r1 r2:Rc},M.le N→OwnS M.A w W [pgE b8 ⟨x.num,r1,r2,0,Pg.dict0⟩ nilS nilS,rcE b6 rm.1,pgE b4 Pg.pge0 nilS nilS,rlE b3 x cv,dcE b2 d vi tk tc,.mem N] →
    pg=(if (Pg.inh d x.chain Pg.rotK).k≠0∧((Pg.inh d x.chain Pg.rotK).k≠2∨(Pg.inh d x.chain Pg.rotK).n.tmod 90≠0) then (Pg.pge0,24) else if (Pg.inh d x.chain Pg.resK).k≠0∧(Pg.inh d x.chain Pg.resK).k≠7 then (Pg.pge0,24) else (⟨x.num,r1,r2,if (Pg.inh d x.chain Pg.rotK).k≠0 then Pg.turn (Pg.inh d x.chain Pg.rotK).n else 0,if (Pg.inh d x.chain Pg.resK).k≠0 then Pg.inh d x.chain Pg.resK else Pg.dict0⟩,0)) →
    S_foliantref35_Page_1 (.pointer (some ⟨b2,0,none⟩)) (.pointer (some ⟨b3,0,none⟩)) (.pointer (some ⟨b4,0,none⟩)) z (.pointer (some ⟨b8,0,none⟩)) W K:=by
   intro W N z r1 r2 hle ho he;unfold S_foliantref35_Page_1;refine join fun J2 hJ2=>?_;rw[dc_v ho 4 rfl,fa_rl1,rl_way ho 3 rfl];refine c_mem ho 5 rfl (rinh_ret d x.chain _ cv Pg.rotK N W hd hx (ho.hasM 5 rfl) (hda.le hle).dv (hc.le hle)) fun m N2 w6 hle2 hm ho=>?_;obtain⟨mk,mc,mcs,rfl,hma⟩:=hm.open;refine o_oba ho fun b7 w7 ho=>?_;refine ob_put 0 hma.keys.one hma.kids.one ho rfl fun w8 ho=>?_;rw[fa_o0,ob_k ho 0 rfl];simp only[rs];by_cases h0:(Pg.inh d x.chain Pg.rotK).k=0
   ·rw[if_neg (by simp[h0]),if_neg (show ¬(Pg.inh d x.chain Pg.rotK).k≠0 by simp[h0])] at he;simp only[h0,ne_eq,not_true,decide_false,i_f];refine hJ2 _ _ fun _=>?_;simp only[gd];exact fin1 (hle.trans hle2) ho.tail he
   ·simp only[h0,ne_eq,not_false_eq_true,decide_true,i_t];rw[fa_o0,ob_k ho 0 rfl];simp only[rs];by_cases h2:(Pg.inh d x.chain Pg.rotK).k=2
    case neg=>
     rw[if_pos ⟨h0,.inl h2⟩] at he;simp only[h2,ne_eq,not_false_eq_true,decide_true,rs,g_un];exact no (L:=[_,_,_]) (hle.trans hle2) ho he
    simp only[h2,ne_eq,not_true,decide_false,rs,fa_o1,ob_n ho 0 rfl];rw[b_rem (by omega)];simp only[rs];by_cases h9:(Pg.inh d x.chain Pg.rotK).n.tmod 90=0
    case neg=>
     rw[if_pos ⟨h0,.inr h9⟩] at he;simp only[h9,ne_eq,not_false_eq_true,decide_true,rs];exact no (L:=[_,_,_]) (hle.trans hle2) ho he
    rw[if_neg (by simp[h2,h9]),if_pos h0] at he;simp only[h9,ne_eq,not_true,decide_false,rs,fa_o1,ob_n ho 0 rfl];have hb:=Pg.tmod_bd (Pg.inh d x.chain Pg.rotK).n;rw[b_rem (by omega)];simp only[rs];rw[wrap64_id (by omega) (by omega),b_rem (by omega),fa_pg3];refine pg_putR 1 ho rfl fun w9 ho=>?_;refine hJ2 _ _ fun _=>?_;simp only[gd];exact fin1 (hle.trans hle2) ho.tail he
  refine join fun J1 hJ1=>?_;have jn:∀{W:World} {N:Mem} {z:Value} {r2:Rc},M.le N→OwnS M.A w W [pgE b8 ⟨x.num,rm.1,r2,0,Pg.dict0⟩ nilS nilS,rcE b6 rm.1,pgE b4 Pg.pge0 nilS nilS,rlE b3 x cv,dcE b2 d vi tk tc,.mem N] →
    (¬((Pg.inh d x.chain Pg.cropK).k≠0∧(Pg.rect d (Pg.inh d x.chain Pg.cropK)).2≠0))→r2=Pg.cropB d (Pg.inh d x.chain Pg.cropK) rm.1→J1 [z] W:=by
   intro W N z r2 hle ho h1 h2;refine hJ1 _ _ fun _=>?_;simp only[gd];rw[if_neg h1,←h2] at hps;exact fin0 hle ho hps
  rw[dc_v ho 4 rfl,fa_rl1,rl_way ho 3 rfl];refine c_mem ho 5 rfl (rinh_ret d x.chain _ cv Pg.cropK N w11 hd hx (ho.hasM 5 rfl) (hda.le hle).dv (hc.le hle)) fun m N2 w12 hle2 hm ho=>?_;obtain⟨ck,cc,ccs,rfl,hca⟩:=hm.open;refine o_oba ho fun b10 w13 ho=>?_;refine ob_put 0 hca.keys.one hca.kids.one ho rfl fun w14 ho=>?_;rw[fa_o0,ob_k ho 0 rfl];simp only[rs];by_cases h0:(Pg.inh d x.chain Pg.cropK).k=0
  ·simp only[h0,ne_eq,not_true,decide_false,i_f];exact jn (hle.trans hle2) ho.tail (by simp[h0]) (by unfold Pg.cropB;rw[if_neg (by simp[h0])])
  simp only[h0,ne_eq,not_false_eq_true,decide_true,i_t];have ho:OwnS M.A w w14 [obE b10 (Pg.inh d x.chain Pg.cropK) ck cc,pgE b8 ⟨x.num,rm.1,rm.1,0,Pg.dict0⟩ nilS nilS,rcE b6 rm.1,pgE b4 Pg.pge0 nilS nilS,rlE b3 x cv,dcE b2 d vi tk tc,.mem N2]:=ho;rw[dc_v ho 5 rfl,ob_v ho 0 rfl];refine c_below ho (R:=fun v=>v=rectV (Pg.rect d (Pg.inh d x.chain Pg.cropK))) (RetM.told (rrect35_ret d _ _ _ N2 w14 hd (iw _) (ho.hasM 6 rfl) (hda.le (hle.trans hle2)).dv hm)) ?_;rintro _ w15 rfl ho;simp only[rectV,ex];refine o_rca ho fun b12 w16 ho=>?_;refine rc_put 0 ho rfl fun w17 ho=>?_;rw[n_err];generalize hrc:Pg.rect d (Pg.inh d x.chain Pg.cropK)=rc at *;by_cases e2:rc.2=0
  case neg=>
   simp only[e2,ne_eq,not_false_eq_true,decide_true,i_t];exact no (L:=[_,_,_,_]) (hle.trans hle2) ho (by rw[hps,if_pos ⟨h0,e2⟩])
  simp only[e2,ne_eq,not_true,decide_false,i_f];rw[rc_v ho 0 rfl,rc_v ho 3 rfl];refine c_below ho (R:=fun v=>v=.tuple #[rcV (Pg.cut rc.1 rm.1),.bool (Pg.room (Pg.cut rc.1 rm.1))]) (rcut35_ret rc.1 rm.1 w17) ?_;rintro _ w18 rfl ho;simp only[ex];refine o_rca ho fun b14 w19 ho=>?_;refine rc_put 0 ho rfl fun w20 ho=>?_;have hcb:∀b,Pg.room (Pg.cut rc.1 rm.1)=b→Pg.cropB d (Pg.inh d x.chain Pg.cropK) rm.1=if b=true then Pg.cut rc.1 rm.1 else rm.1:=by
   rintro b rfl;unfold Pg.cropB;rw[if_pos h0,hrc]
  cases hroom:Pg.room (Pg.cut rc.1 rm.1) with
 |true=>
   simp only[i_t];rw[rc_v ho 0 rfl,fa_pg2];refine pg_putC 3 ho rfl fun w21 ho=>?_;exact jn (hle.trans hle2) ho.tail.tail.tail (by simp[e2]) (by rw[hcb true hroom];rfl)
 |false=>
   simp only[i_f];exact jn (hle.trans hle2) ho.tail.tail.tail (by simp[e2]) (by rw[hcb false hroom];rfl)
 refine⟨fun W=>(dcE b2 d vi tk tc).is W∧(rlE b3 x cv).is W,?_,?_⟩
 ·have ho:=ho.drew;exact⟨ho.at_ 2 rfl,ho.at_ 1 rfl⟩
 have ho:=ho.drew;refine hd_do _ (fun W h=>run_dcv h.1) (hd_do _ (fun W h=>run_dcv h.1) (hd_pure _ (fun _=>run_fa fo_rl1) (hd_do _ (fun W h=>run_rlway h.2) ?_)));constructor
 ·refine c_mem ho 3 rfl (rinh_ret d x.chain _ cv Pg.mediaK M _ hd hx (ho.hasM 3 rfl) hda.dv hc) fun m N w6 hle hm ho=>?_;refine⟨⟨ho.at_ 2 rfl,ho.at_ 1 rfl⟩,?_,?_⟩
  ·refine c_below ho (R:=fun v=>v=rectV rm) (by rw[←hrm];exact RetM.told (rrect35_ret d _ _ _ N _ hd (iw _) (ho.hasM 3 rfl) (hda.le hle).dv hm)) ?_;rintro _ w9 rfl ho;refine⟨⟨ho.at_ 2 rfl,ho.at_ 1 rfl⟩,?_⟩;refine hd_ext (hd_ext1 ?_);refine o_rca ho fun b6 w10 ho=>?_;refine⟨⟨ho.at_ 3 rfl,ho.at_ 2 rfl⟩,?_⟩;refine rc_put 0 ho rfl fun w11 ho=>?_;exact main hle ho
  ·refine o_rca ho fun b6 w10 ho=>?_;refine⟨⟨ho.at_ 3 rfl,ho.at_ 2 rfl⟩,?_⟩;refine c_below ho (R:=fun v=>v=rectV rm) (by rw[←hrm];exact RetM.told (rrect35_ret d _ _ _ N _ hd (iw _) (ho.hasM 4 rfl) (hda.le hle).dv hm)) ?_;rintro _ w9 rfl ho;refine⟨⟨ho.at_ 3 rfl,ho.at_ 2 rfl⟩,?_⟩;refine hd_ext (hd_ext1 ?_);refine rc_put 0 ho rfl fun w11 ho=>?_;exact main hle ho
 ·refine o_rca ho fun b6 w10 ho=>?_;refine⟨⟨ho.at_ 3 rfl,ho.at_ 2 rfl⟩,?_⟩;refine c_mem ho 4 rfl (rinh_ret d x.chain _ cv Pg.mediaK M _ hd hx (ho.hasM 4 rfl) hda.dv hc) fun m N w6 hle hm ho=>?_;refine⟨⟨ho.at_ 3 rfl,ho.at_ 2 rfl⟩,?_⟩;refine c_below ho (R:=fun v=>v=rectV rm) (by rw[←hrm];exact RetM.told (rrect35_ret d _ _ _ N _ hd (iw _) (ho.hasM 4 rfl) (hda.le hle).dv hm)) ?_;rintro _ w9 rfl ho;refine⟨⟨ho.at_ 3 rfl,ho.at_ 2 rfl⟩,?_⟩;refine hd_ext (hd_ext1 ?_);refine rc_put 0 ho rfl fun w11 ho=>?_;exact main hle ho
end
section
open Go
namespace Pg
structure Bd (s:Pw):Prop where
 met:s.met.length≤4096
 pages:s.pages.length≤2048
def errN (d:Dc)(f:Nat)(r:Ob)(s:Pw):Int:=
 if badN d r=true then 24 else if r.n∈s.met then 11 else if 24 < (25 - (f:Int)) then 7 else if s.met.length=4096∨(leafB d (Dk.follow d r)=true∧s.pages.length=2048) then 6 else 0
theorem node_err {d:Dc}{f:Nat}{r:Ob}{ab:List Ob}{s:Pw}(hs:Bd s)(h:errN d f r s≠0)(hf:f≤24):node d f r ab s=(s,errN d f r s):=by
 obtain⟨h1,h2⟩:=hs;unfold errN at h ⊢;unfold node;by_cases hb:badN d r=true
 ·rw[if_pos hb,if_pos hb]
 rw[if_neg hb] at h;rw[if_neg hb,if_neg hb];by_cases hm:r.n∈s.met
 ·rw[if_pos hm,if_pos hm]
 rw[if_neg hm] at h;rw[if_neg hm,if_neg hm];cases f with
|zero=>rw[if_pos (by omega)]
|succ f=>
  rw[if_neg (by omega)] at h;rw[if_neg (show ¬24 < (25 - ((f+1:Nat):Int)) by omega)];by_cases hk:s.met.length=4096∨(leafB d (Dk.follow d r)=true∧s.pages.length=2048)
  ·rw[if_pos hk];simp only;rw[if_pos];rcases hk with hk|hk
   ·exact .inl (by omega)
   ·exact .inr ⟨hk.1,by omega⟩
  ·rw[if_neg hk] at h;exact absurd rfl h
theorem node_go {d:Dc}{f:Nat}{r:Ob}{ab:List Ob}{s:Pw}(hs:Bd s)(h:errN d f r s=0) :
  badN d r=false∧r.n ∉ s.met∧s.met.length < 4096∧(leafB d (Dk.follow d r)=true→s.pages.length < 2048)∧∃g,f=g+1∧node d f r ab s=if leafB d (Dk.follow d r)=true then (⟨s.met++[r.n],s.pages++[⟨r.n,Dk.follow d r::ab⟩]⟩,0)
   else foldE (fun k s=>node d g k (Dk.follow d r::ab) s) (val d (Dk.follow d r) kidsK).kids ⟨s.met++[r.n],s.pages⟩:=by
 obtain⟨h1,h2⟩:=hs;unfold errN at h;by_cases hb:badN d r=true
 ·rw[if_pos hb] at h;cases h
 rw[if_neg hb] at h;by_cases hm:r.n∈s.met
 ·rw[if_pos hm] at h;cases h
 rw[if_neg hm] at h;cases f with
|zero=>rw[if_pos (by omega)] at h;cases h
|succ f=>
  rw[if_neg (by omega)] at h;by_cases hk:s.met.length=4096∨(leafB d (Dk.follow d r)=true∧s.pages.length=2048)
  ·rw[if_pos hk] at h;cases h
  obtain⟨k1,k2⟩:=not_or.1 hk;have k3:leafB d (Dk.follow d r)=true→s.pages.length < 2048:=fun hl=>by
   have:=(not_and.1 k2) hl;omega
  refine⟨by simpa using hb,hm,by omega,k3,f,rfl,?_⟩
  conv=>lhs;unfold node
  rw[if_neg hb,if_neg hm];simp only;rw[if_neg];rintro (hk|⟨hk,hk2⟩)
  ·omega
  ·have:=k3 hk;omega
theorem foldE_bd {g:Ob→Pw→Pw×Int}(hg:∀k s,Bd s→Bd (g k s).1):∀(l:List Ob) (s:Pw),Bd s→Bd (foldE g l s).1
|[],s,h=>h
|k::l,s,h=>by
  rw[foldE];split
  ·exact hg k s h
  ·exact foldE_bd hg l _ (hg k s h)
theorem node_bd {d:Dc}:∀(f:Nat) (r:Ob) (ab:List Ob) (s:Pw),f≤24→Bd s→Bd (node d f r ab s).1
|f,r,ab,s,hf,hs=>by
  by_cases h:errN d f r s=0
  ·obtain⟨-,-,h1,h2,g,hg,hn⟩:=node_go (ab:=ab) hs h;rw[hn];split
   ·rename_i hl
    have:=h2 hl;exact⟨by simp;omega,by simp;omega⟩
   ·subst hg;exact foldE_bd (fun k s hs=>node_bd g k _ s (by omega) hs) _ _ ⟨by simp;omega,hs.pages⟩
  ·rw[node_err hs h hf];exact hs
 termination_by f=>f
theorem foldE_drop {g:Ob→Pw→Pw×Int}{l:List Ob}{i:Nat}{s:Pw}(hi:i < l.length):foldE g (l.drop i) s=if (g l[i] s).2≠0 then g l[i] s else foldE g (l.drop (i+1)) (g l[i] s).1:=by
 rw[List.drop_eq_getElem_cons hi,foldE]
end Pg
end
section
open Eng Go.RowKit
theorem Pg.kind_page {d:Dc}{o:Ob}:Pg.kindS d o=Pg.pageN↔o.k=7∧Pg.leafB d o=true:=by
 unfold Pg.kindS;by_cases h7:o.k=7
 ·rw[if_neg (by simp[h7])];by_cases hl:Pg.leafB d o=true
  ·rw[if_pos hl];simp[h7,hl]
  ·rw[if_neg hl];split
   ·simp[hl,Pg.pagesN,Pg.pageN]
   ·simp[hl,Pg.pageN]
 ·rw[if_pos h7];simp[h7,Pg.pageN]
theorem Pg.bad_eq {d:Dc}{r:Ob}:Pg.badN d r=(decide (r.k≠8)||decide (Pg.kindS d (Dk.follow d r)=[])||(!decide (Pg.kindS d (Dk.follow d r)=Pg.pageN)&&decide ((Pg.val d (Dk.follow d r) Pg.kidsK).k≠6))):=by
 unfold Pg.badN Pg.kindS;generalize Dk.follow d r=o;by_cases h7:o.k=7
 ·cases hl:Pg.leafB d o<;>cases hn:Pg.nodeB d o
  ·simp[h7,Pg.pageN,Pg.pagesN]
  ·simp[h7,Pg.pageN,Pg.pagesN]
  ·simp[h7,Pg.pageN,Pg.pagesN]
  ·exact (Pg.apart hl hn).elim
 ·simp[h7]
theorem mapIB_und:Tryz.prog.underlying 114=some (.map 3 4):=by kernel_rfl
theorem intKey:Tryz.prog.underlying 3=some (.int .i64):=by kernel_rfl
theorem boolZ:(Tryz.prog.info? 4).bind (·.zero)=some (.bool false):=by kernel_rfl
section
variable {w:World}{S:Nat→Prop}{w0:World}{L:List Ent}
theorem h_pfollow {PK:PKT}{F:VWP}{bt bo mb:Nat}{d:Dc}{vi vk vc ok oc:Value}{cs:List Value}{n e:Int}{o:Ob}{M:Mem}(jt jo jm:Nat)(h1:jm≠jt)(h2:jm≠jo)(ho:OwnS S w0 w L)
  (ht:L[jt]?=some (trE35 bt d vi vk vc mb n e)) (hjo:L[jo]?=some (obE bo o ok oc)) (hm:L[jm]?=some (.mem M)) (hd:Dk.Ok d) (hda:DocAt M.A M.w d vi vk vc cs) (hov:OV M.A M.w (obV o ok oc) o) (hw:o.wt≤1000000000)
  (k:∀b N yk yc W,M.le N→OV N.A N.w (obV (Dk.follow d o) yk yc) (Dk.follow d o)→OwnS S w0 W (obE b (Dk.follow d o) yk yc::L.set jm (.mem N))→F (.pointer (some ⟨b,0,none⟩)) W) :
  HeldX w (fun S1 w=>
 HDo prog (fun _=>True) (mNil (.pointer (some ⟨bt,0,none⟩))) fun t20=>
 HDo prog (fun _=>True) (mFA 116 t20 0) fun t21=>
 HDo prog S1 (mLoad 28 t21) fun t22=>
 HDo prog S1 (mLoad 26 (.pointer (some ⟨bo,0,none⟩))) fun t23=>
 (CallX prog 39 #[t22,t23] w PK fun t24 w=>
 (DoX prog (mAlloc 26) w PK fun t11 w=>
 S1 w∧(DoX prog (mStore 26 t11 t24) w PK fun _ w=>
 (F t11 w))))∧(DoX prog (mAlloc 26) w PK fun t11_1 w=>
 S1 w∧(CallX prog 39 #[t22,t23] w PK fun t24_1 w=>
 (DoX prog (mStore 26 t11_1 t24_1) w PK fun _ w=>
 (F t11_1 w))))):=by
 have ho:=ho.drew;have hjml:jm < L.length:=(List.getElem?_eq_some_iff.1 hm).1;have gt:∀N,(L.set jm (.mem N))[jt]?=some (trE35 bt d vi vk vc mb n e):=fun N=>by rw[List.getElem?_set_ne h1];exact ht
 have go:∀N,(L.set jm (.mem N))[jo]?=some (obE bo o ok oc):=fun N=>by rw[List.getElem?_set_ne h2];exact hjo
 have st:∀(b:Nat) (N:Mem) (y:Value) (W:World),M.le N→OV N.A N.w y (Dk.follow d o)→OwnS S w0 W (obE b ob0 nilS nilS::L.set jm (.mem N)) →
   DoX prog (mStore 26 (.pointer (some ⟨b,0,none⟩)) y) W PK fun _ w=>F (.pointer (some ⟨b,0,none⟩)) w:=by
  intro b N y W hle hy ho;obtain⟨yk,yc,ycs,rfl,hya⟩:=hy.open;refine ob_put 0 hya.keys.one hya.kids.one ho rfl fun w6 ho=>?_;exact k b N yk yc w6 hle hy ho
 refine⟨fun W=>(trE35 bt d vi vk vc mb n e).is W∧(obE bo o ok oc).is W,⟨ho.at_ jt ht,ho.at_ jo hjo⟩,?_⟩;refine hd_pure _ (fun _=>rfl) (hd_pure _ (fun _=>run_fa fo_pt0) (hd_do _ (fun W h=>run_trdoc h.1) (hd_do _ (fun W h=>run_obload h.2) ?_)));constructor
 ·refine c_mem ho jm hm (dfollow_ret d o _ _ M _ hd hw (ho.hasM jm hm) hda.dv hov) fun y N w3 hle hy ho=>?_;refine o_oba ho fun b w4 ho=>?_;exact⟨⟨ho.at_ (jt+1) (gt _),ho.at_ (jo+1) (go _)⟩,st b N y w4 hle hy ho⟩
 ·refine o_oba ho fun b w4 ho=>?_;refine⟨⟨ho.at_ (jt+1) ht,ho.at_ (jo+1) hjo⟩,?_⟩;refine c_mem ho (jm+1) hm (dfollow_ret d o _ _ M _ hd hw (ho.hasM (jm+1) hm) hda.dv hov) fun y N w3 hle hy ho=>?_;exact st b N y w3 hle hy ho
theorem c_tests {K:Ending→World→Prop}{G:World→Prop}{bt mb:Nat}{d:Dc}{vi vk vc:Value}{np:Nat}{met:List Int}{n:Int}{B pg:Bool}{deep:Int}(jt js:Nat)(hne:jt≠js)(ho:OwnS S w0 w L)
  (ht:L[jt]?=some (trE35 bt d vi vk vc mb np 0)) (hs:L[js]?=some (.seti mb met))
  (kE:∀(e:Int) (W:World),e=(if B=true then 24 else if n∈met then 11 else if 24 < deep then 7 else if met.length=4096∨(pg=true∧np=2048) then 6 else 0)→e≠0→OwnS S w0 W (L.set jt (trE35 bt d vi vk vc mb np e))→K (.returned (.bool false)) W)
  (kG:(if B=true then 24 else if n∈met then 11 else if 24 < deep then 7 else if met.length=4096∨(pg=true∧np=2048) then 6 else (0:Int))=0→∀W,OwnS S w0 W L→G W) :
  CallX prog 121 #[(.pointer (some ⟨bt,0,none⟩)),(.bool B),(.int .i64 24)] w (pk K) fun t56 w=>
 GDo t56 false (fun E=>E (.pointer (some ⟨bt,0,none⟩)) w) w fun t58 w=>
 GDo t56 false (fun E=>E (.pointer (some ⟨bt,0,none⟩)) w) w fun t59 w=>
 GDo t56 false (fun E=>DoX prog (mNil t59) w (pk K) E) w fun t60 w=>
 GDo t56 false (fun E=>DoX prog (mFA 116 t60 1) w (pk K) E) w fun t61 w=>
 GDo t56 false (fun E=>DoX prog (mLoad 114 t61) w (pk K) E) w fun t62 w=>
 GDo t56 false (fun E=>E (.int .i64 n) w) w fun t63 w=>
 GDo t56 false (fun E=>DoX prog (mLook 114 t62 t63 false) w (pk K) E) w fun t64 w=>
 GDo t56 false (fun E=>CallX prog 121 #[t58,t64,(.int .i64 11)] w (pk K) E) w fun t65 w=>
 DoX prog (mPick t56 (.bool true) t65) w (pk K) fun t66 w=>
 GDo t66 false (fun E=>E (.pointer (some ⟨bt,0,none⟩)) w) w fun t68 w=>
 GDo t66 false (fun E=>E (.int .i64 deep) w) w fun t69 w=>
 GDo t66 false (fun E=>DoX prog (mBin .gtr 3 t69 (.int .i64 24)) w (pk K) E) w fun t70 w=>
 GDo t66 false (fun E=>CallX prog 121 #[t68,t70,(.int .i64 7)] w (pk K) E) w fun t71 w=>
 DoX prog (mPick t66 (.bool true) t71) w (pk K) fun t72 w=>
 GDo t72 false (fun E=>E (.pointer (some ⟨bt,0,none⟩)) w) w fun t74 w=>
 GDo t72 false (fun E=>E (.pointer (some ⟨bt,0,none⟩)) w) w fun t75 w=>
 GDo t72 false (fun E=>DoX prog (mNil t75) w (pk K) E) w fun t76 w=>
 GDo t72 false (fun E=>DoX prog (mFA 116 t76 1) w (pk K) E) w fun t77 w=>
 GDo t72 false (fun E=>DoX prog (mLoad 114 t77) w (pk K) E) w fun t78 w=>
 GDo t72 false (fun E=>DoX prog (mB .len #[114] 3 #[false] #[t78]) w (pk K) E) w fun t79 w=>
 GDo t72 false (fun E=>DoX prog (mEq .eql 3 (.tmp 79) (.const (.int .i64 4096)) t79 (.int .i64 4096)) w (pk K) E) w fun t80 w=>
 GDo t72 false (fun E=>E t80 w) w fun t81 w=>
 GDo t81 false (fun E=>E (.bool pg) w) w fun t82 w=>
 GDo t81 false (fun E=>E t82 w) w fun t83 w=>
 GDo t83 true (fun E=>E (.pointer (some ⟨bt,0,none⟩)) w) w fun t84 w=>
 GDo t83 true (fun E=>DoX prog (mNil t84) w (pk K) E) w fun t85 w=>
 GDo t83 true (fun E=>DoX prog (mFA 116 t85 2) w (pk K) E) w fun t86 w=>
 GDo t83 true (fun E=>DoX prog (mLoad 3 t86) w (pk K) E) w fun t87 w=>
 GDo t83 true (fun E=>DoX prog (mEq .eql 3 (.tmp 87) (.const (.int .i64 2048)) t87 (.int .i64 2048)) w (pk K) E) w fun t88 w=>
 GDo t81 false (fun E=>DoX prog (mPick t83 t88 (.bool false)) w (pk K) E) w fun t89 w=>
 GDo t72 false (fun E=>DoX prog (mPick t81 (.bool true) t89) w (pk K) E) w fun t90 w=>
 GDo t72 false (fun E=>CallX prog 121 #[t74,t90,(.int .i64 6)] w (pk K) E) w fun t91 w=>
 DoX prog (mPick t72 (.bool true) t91) w (pk K) fun t92 w=>
 IfX t92 (K (.returned (.bool false)) w) (G w):=by
 have hsame:L.set jt (trE35 bt d vi vk vc mb np 0)=L:=by
  obtain⟨h1,h2⟩:=List.getElem?_eq_some_iff.1 ht;rw[←h2];exact List.set_getElem_self h1
 refine c_wrong B 24 jt (by decide) ho ht fun W1 ho=>?_;cases B with
|true=>
  simp only[rs,g_un];exact kE 24 W1 rfl (by decide) ho
|false=>
 rw[show (if (false=true) then (24:Int) else 0)=0 from rfl,hsame] at ho;simp only[Bool.false_eq_true,if_false] at kE kG;simp only[rs,m_nilP,fa_pt1,tr_met ho jt ht];refine do_eq (run_inSet mapIB_und intKey boolZ (ho.at_ js hs) n) |>.mpr ?_;refine c_wrong (decide (n∈met)) 11 jt (by decide) ho ht fun W2 ho=>?_;by_cases hm:n∈met
 ·rw[if_pos hm] at kE;simp only[hm,decide_true,rs,g_un];rw[if_pos (decide_eq_true hm)] at ho;exact kE 11 W2 rfl (by decide) ho
 rw[if_neg (by simp[hm]),hsame] at ho;rw[if_neg hm] at kE kG;simp only[hm,decide_false,rs];refine c_wrong (decide (24 < deep)) 7 jt (by decide) ho ht fun W3 ho=>?_;by_cases hdp:24 < deep
 ·rw[if_pos hdp] at kE;simp only[hdp,decide_true,rs,g_un];rw[if_pos (decide_eq_true hdp)] at ho;exact kE 7 W3 rfl (by decide) ho
 rw[if_neg (by simp[hdp]),hsame] at ho;rw[if_neg hdp] at kE kG;simp only[hdp,decide_false,rs,m_nilP,fa_pt1,tr_met ho jt ht];refine do_eq (run_setLen mapIB_und (ho.at_ js hs)) |>.mpr ?_;simp only[rs];have last:∀(b:Bool),b=decide (met.length=4096∨(pg=true∧np=2048))→CallX prog 121 #[.pointer (some ⟨bt,0,none⟩),.bool b,.int .i64 6] W3 (pk K) fun t91 w=>IfX t91 (K (.returned (.bool false)) w) (G w):=by
  intro b hb;refine c_wrong b 6 jt (by decide) ho ht fun W4 ho=>?_;cases b with
 |true=>
   have hb:met.length=4096∨(pg=true∧np=2048):=of_decide_eq_true hb.symm;rw[if_pos hb] at kE;simp only[i_t];exact kE 6 W4 rfl (by decide) ho
 |false=>
   have hb:¬(met.length=4096∨(pg=true∧np=2048)):=of_decide_eq_false hb.symm;rw[if_neg hb] at kG;rw[if_neg (by decide),hsame] at ho;simp only[i_f];exact kG rfl W4 ho
 by_cases h4:met.length=4096
 ·have h4':(met.length:Int)=4096:=by omega
  simp only[h4',decide_true,rs,g_un];exact last true (by simp[h4])
 have h4':¬(met.length:Int)=4096:=by omega
 simp only[h4',decide_false,rs];cases pg with
|false=>
  simp only[rs,g_un];exact last false (by simp[h4])
|true=>
  simp only[rs,m_nilP,fa_pt2,tr_n ho jt ht];exact last _ (by simp[h4];omega)
end
end
section
open Eng Go.RowKit
def slfE (b:Nat)(v:Value):Ent:=.cells b [v] 72
abbrev lfRow (v:Value)(n:Nat)(cs:List Value):Ent:=.urow 76 2 v n cs
abbrev nodeL (L0:Loop)(lb df b2 bt mb:Nat)(d:Dc)(vi vk vc lv:Value)(cs:List Value)(s:Pw)(e:Int)(N:Mem)(X:List Ent):List Ent:=
 .obj lb (lp L0 .ready none)::.obj df (.deferred (some []))::slfE b2 lv::lfRow lv s.pages.length cs::trE35 bt d vi vk vc mb s.pages.length e::.seti mb s.met::.mem N::X
theorem Pg.follow8_wt {d:Dc}(hd:Dk.Ok d){r:Ob}(h8:r.k=8):(Dk.follow d r).wt≤1000000000:=by
 unfold Dk.follow;rw[if_neg (by simp[h8])];unfold Dk.pick;split
 ·rw[ob0_wt];omega
 ·rename_i i hi
  split
  ·rw[ob0_wt];omega
  ·exact (Dk.find_ok hd hi).2
theorem Pg.follow_id {d:Dc}{o:Ob}(h:o.k≠8):Dk.follow d o=o:=by unfold Dk.follow;rw[if_pos h]
theorem Chn.cons {N:Mem}{v:Value}{o:Ob}{ok oc:Value}{l:List Ob}{acs:List Value}(hr:SlA N.A N.w v 6 (1+l.length) (obC o ok oc++acs))(ho:OV N.A N.w (obV o ok oc) o)(ha:OVs N.A N.w acs l):Chn N.A N.w v (o::l):=by
 refine⟨_,by rw[List.length_cons,Nat.add_comm];exact hr,?_⟩;exact ovs_app (ovs_1 ho) ha
theorem node_any (d:Dc)(vi vk vc:Value)(hd:Dk.Ok d)(h8:∀r,(Dk.follow d r).k≠8)(S:Nat→Prop)(w0:World)(L0:Loop)(lb df b2 bt mb:Nat)
  (hy:∀(x:Lf) (cv lv:Value) (cs:List Value) (n:Nat) (X:List Ent) (W:World),n≤100000→cv.oneCell'=true→OwnS S w0 W (.obj lb (lp L0 .ready none)::.obj df (.deferred (some []))::slfE b2 lv::lfRow lv n cs::X) →
   Yld prog lb [lfV x cv] W (fun r W'=>r=.bool true∧∃lv',OwnS S w0 W' (.obj lb (lp L0 .ready none)::.obj df (.deferred (some []))::slfE b2 lv'::lfRow lv' (n+1) (cs++lfC x cv)::X))) :
  ∀(f:Nat) (r:Ob) (rv av:Value) (ab:List Ob) (s:Pw) (lv:Value) (cs dcs:List Value) (N:Mem) (X:List Ent) (w:World) (K:Ending→World→Prop),f≤24→ab.length+f=24→r.wt≤1000000000 →
   OV N.A N.w rv r→Chn N.A N.w av ab→DocAt N.A N.w d vi vk vc dcs→LVs N.A N.w cs s.pages→Pg.Bd s→OwnS S w0 w (nodeL L0 lb df b2 bt mb d vi vk vc lv cs s 0 N X) →
   (∀(N':Mem) (lv':Value) (cs':List Value) (W:World),N.le N'→LVs N'.A N'.w cs' (Pg.node d f r ab s).1.pages→OwnS S w0 W (nodeL L0 lb df b2 bt mb d vi vk vc lv' cs' (Pg.node d f r ab s).1 (Pg.node d f r ab s).2 N' X)→K (.returned (.bool (decide ((Pg.node d f r ab s).2=0)))) W) →
   Calls prog 92 #[.pointer (some ⟨bt,0,none⟩),rv,av,.int .i64 (25 - (f:Int)),.func (.yield lb) #[] #[]] w K:=by
 intro f
 induction f using Nat.strongRecOn with
|ind f ih=>
 intro r rv av ab s lv cs dcs N X w K hf hab hrw hrv hav hda hls hbd ho hK;obtain⟨rk,rc,rcs,rfl,hra⟩:=hrv.open;refine S_pages_tree_node_ok ?_;unfold S_pages_tree_node;refine o_obb r hra.keys.one hra.kids.one ho fun b6 w1 ho=>?_;refine h_pfollow 5 0 7 (by omega) (by omega) ho rfl rfl rfl hd hda hrv hrw fun b11 N1 ok oc w2 hle1 hov ho=>?_;have ho:OwnS S w0 w2 (obE b11 (Dk.follow d r) ok oc::obE b6 r rk rc::nodeL L0 lb df b2 bt mb d vi vk vc lv cs s 0 N1 X):=ho;have how:(Dk.follow d r).wt≤1000000000:=Dk.follow_wt hd hrw;have hfo:Dk.follow d (Dk.follow d r)=Dk.follow d r:=Pg.follow_id (h8 r);unfold S_pages_tree_node_0;rw[ob_v ho 0 rfl];refine p_kind_ret 6 8 (by omega) ho rfl rfl hd (hda.le hle1) hov how fun N2 w3 hle2 ho=>?_;have ho:OwnS S w0 w3 (obE b11 (Dk.follow d r) ok oc::obE b6 r rk rc::nodeL L0 lb df b2 bt mb d vi vk vc lv cs s 0 N2 X):=ho;refine h_path Pg.kidsK 6 0 8 (by omega) (by omega) ho rfl rfl rfl hd (hda.le (hle1.trans hle2)) (hov.le hle2) how hfo fun b13 N3 kk kc w4 hle3 hkv ho=>?_;have ho:OwnS S w0 w4 (obE b13 (Pg.val d (Dk.follow d r) Pg.kidsK) kk kc::obE b11 (Dk.follow d r) ok oc::obE b6 r rk rc::nodeL L0 lb df b2 bt mb d vi vk vc lv cs s 0 N3 X):=ho;have hle03:=(hle1.trans hle2).trans hle3;have hkw:=Pg.val_wt hd Pg.kidsK how
 -- behind the tests
 have main:∀(pg:Bool),(pg=true↔Pg.leafB d (Dk.follow d r)=true)→Pg.errN d f r s=0→∀w,OwnS S w0 w (obE b13 (Pg.val d (Dk.follow d r) Pg.kidsK) kk kc::obE b11 (Dk.follow d r) ok oc::obE b6 r rk rc::nodeL L0 lb df b2 bt mb d vi vk vc lv cs s 0 N3 X) →
   DoX prog (mNil (.pointer (some ⟨bt,0,none⟩))) w (pk K) fun t94 w=>
 DoX prog (mFA 116 t94 1) w (pk K) fun t95 w=>
 DoX prog (mLoad 114 t95) w (pk K) fun t96 w=>
 DoX prog (mMapU 114 t96 (.int .i64 r.n) (.bool true)) w (pk K) fun _ w=>
 DoX prog (mLoad 26 (.pointer (some ⟨b11,0,none⟩))) w (pk K) fun t98 w=>
 DoX prog (mBuildS 24 1 #[(0,t98)]) w (pk K) fun t99 w=>
 DoX prog (mB .append #[24,24] 24 #[false,false] #[t99,av]) w (pk K) fun t101 w=>
 IfX (.bool pg) (DoX prog (mNil (.pointer (some ⟨bt,0,none⟩))) w (pk K) fun t104 w=>
 DoX prog (mFA 116 t104 2) w (pk K) fun t105 w=>
 DoX prog (mLoad 3 t105) w (pk K) fun t106 w=>
 DoX prog (mBin .add 3 t106 (.int .i64 1)) w (pk K) fun t107 w=>
 DoX prog (mNil (.pointer (some ⟨bt,0,none⟩))) w (pk K) fun t108 w=>
 DoX prog (mFA 116 t108 2) w (pk K) fun t109 w=>
 DoX prog (mStore 3 t109 t107) w (pk K) fun _ w=>
 DoX prog (mBuild 76 #[(0,(.int .i64 r.n)),(1,t101)]) w (pk K) fun t113 w=>
 DoX prog (mCallV (.func (.yield lb) #[] #[]) #[t113]) w (pk K) fun t114 w=>
 K (.returned t114) w) (DoX prog (mFA 26 (.pointer (some ⟨b13,0,none⟩)) 5) w (pk K) fun t115 w=>
 DoX prog (mLoad 24 t115) w (pk K) fun t116 w=>
 DoX prog (mB .len #[24] 3 #[false] #[t116]) w (pk K) fun t117 w=>
 LoopX [(.int .i64 0)] w (fun vs3 w N3=>∀_:Sg,S_pages_tree_node_2 (.pointer (some ⟨bt,0,none⟩)) (.int .i64 (25 - (f:Int))) (.func (.yield lb) #[] #[]) t101 t116 t117 (vs3.getD 0 undef) w N3 K)):=by
  intro pg hpg herr w5 ho;obtain⟨hb,hnm,hml,hpl,g,hg,hn⟩:=Pg.node_go (ab:=ab) hbd herr;rw[m_nilP,fa_pt1,tr_met ho 7 rfl];refine o_setAdd 8 mapIB_und intKey ho rfl r.n hnm fun w5 ho=>?_;have ho:OwnS S w0 w5 (obE b13 (Pg.val d (Dk.follow d r) Pg.kidsK) kk kc::obE b11 (Dk.follow d r) ok oc::obE b6 r rk rc::nodeL L0 lb df b2 bt mb d vi vk vc lv cs ⟨s.met++[r.n],s.pages⟩ 0 N3 X):=ho;rw[ob_v ho 1 rfl];refine o_obs1 (Dk.follow d r) hov.oneK hov.oneC ho fun nb w6 ho=>?_;have ho:=OwnS.toU (b:=nb) (cs:=obC (Dk.follow d r) ok oc) (E:=26) ho 6 1 1 rfl (by omega) (by omega);obtain⟨acs,hs,hall⟩:=hav.le hle03;refine o_apO 0 ho rfl (hs.now (ho.hasM 10 rfl)) (ovs_one hall) (by omega) fun av' w7 ho=>?_;have ho:OwnS S w0 w7 (.urow 26 6 av' (1+ab.length) (obC (Dk.follow d r) ok oc++acs)::obE b13 (Pg.val d (Dk.follow d r) Pg.kidsK) kk kc::obE b11 (Dk.follow d r) ok oc::obE b6 r rk rc::nodeL L0 lb df b2 bt mb d vi vk vc lv cs ⟨s.met++[r.n],s.pages⟩ 0 N3 X):=ho;obtain⟨N4,hle4,hrow,ho⟩:=OwnS.freezeU ho 9 rfl;have ho:OwnS S w0 w7 (obE b13 (Pg.val d (Dk.follow d r) Pg.kidsK) kk kc::obE b11 (Dk.follow d r) ok oc::obE b6 r rk rc::nodeL L0 lb df b2 bt mb d vi vk vc lv cs ⟨s.met++[r.n],s.pages⟩ 0 N4 X):=ho;have hle04:=hle03.trans hle4;have hch:Chn N4.A N4.w av' (Dk.follow d r::ab):=Chn.cons hrow (((hov.le hle2).le hle3).le hle4) (hall.le hle4);have hpb:=hbd.pages;have hmb:=hbd.met;rw[hn] at hK;cases pg with
 |true=>
   have hl:=hpg.1 rfl;have hpl:=hpl hl;rw[if_pos hl] at hK;rw[i_t,m_nilP,fa_pt2,tr_n ho 7 rfl];simp only[rs];rw[wrap64_id (by omega) (by omega),show ((s.pages.length:Int)+1)=((s.pages.length+1:Nat):Int) by omega,fa_pt2];refine tr_putN 7 ho rfl fun w8 ho=>?_;rw[m_lf hch.one (Dk.follow d r::ab)];refine c_yld (hy ⟨r.n,Dk.follow d r::ab⟩ av' lv cs s.pages.length _ w8 (by omega) hch.one ho.tail.tail.tail) ?_;rintro _ w9 ⟨rfl,lv',ho⟩;refine hK N4 lv' (cs++lfC ⟨r.n,Dk.follow d r::ab⟩ av') w9 hle04 (Rws.snoc (x:=(⟨r.n,Dk.follow d r::ab⟩:Lf)) ⟨av',rfl,hch⟩ (hls.le hle04)) ?_;have e:(s.pages++[(⟨r.n,Dk.follow d r::ab⟩:Lf)]).length=s.pages.length+1:=by simp
   show OwnS S w0 w9 (.obj lb (lp L0 .ready none)::.obj df (.deferred (some []))::slfE b2 lv'::lfRow lv' (s.pages++[(⟨r.n,Dk.follow d r::ab⟩:Lf)]).length _::trE35 bt d vi vk vc mb (s.pages++[(⟨r.n,Dk.follow d r::ab⟩:Lf)]).length 0::_);rw[e];exact ho
 |false=>
   have hl:¬Pg.leafB d (Dk.follow d r)=true:=fun h=>by have:=hpg.2 h;cases this
   rw[if_neg hl] at hK;obtain⟨kcs,hka⟩:=hkv.slices;rw[i_f,fa_o5,ob_kids ho 0 rfl,sl_len Tryz.underlying24 (hka.kids.now (Mem.has_of hle4 (ho.hasM 9 rfl)))];generalize hkd:Pg.val d (Dk.follow d r) Pg.kidsK=kids at *;have hkl:kids.kids.length≤1000000000:=by
    have h1:=Ob.len_wts kids.kids;have h2:=kids.wt_eq;omega
   have hbd1:Pg.Bd ⟨s.met++[r.n],s.pages⟩:=⟨by simp;omega,hpb⟩;refine loop (fun vs W=>∃(i:Nat) (N':Mem) (lv':Value) (cs':List Value) (s':Pw),vs=[.int .i64 i]∧i≤kids.kids.length∧N4.le N'∧LVs N'.A N'.w cs' s'.pages∧Pg.Bd s' ∧
    Pg.foldE (fun k s=>Pg.node d g k (Dk.follow d r::ab) s) kids.kids ⟨s.met++[r.n],s.pages⟩=Pg.foldE (fun k s=>Pg.node d g k (Dk.follow d r::ab) s) (kids.kids.drop i) s' ∧
    OwnS S w0 W (obE b13 kids kk kc::obE b11 (Dk.follow d r) ok oc::obE b6 r rk rc::nodeL L0 lb df b2 bt mb d vi vk vc lv' cs' s' 0 N' X)) (fun vs _=>kids.kids.length - n0 vs)
    ⟨0,N4,lv,cs,⟨s.met++[r.n],s.pages⟩,rfl,by omega,N4.le_refl,hls.le hle04,hbd1,rfl,ho⟩ ?_
   clear ho;rintro vs w8 ⟨i,N',lv',cs',s',rfl,hi,hle',hls',hbd',heq,ho⟩ _;simp only[S_pages_tree_node_2,gd,rs];by_cases hlt:(i:Int) < (kids.kids.length:Int)
   ·have hi':i < kids.kids.length:=by omega
    simp only[hlt,decide_true,i_t];obtain⟨xv,p,hxv,hr⟩:=kid_at hka hi';obtain⟨r1,r2⟩:=hr w8 (Mem.has_of (hle4.trans hle') (ho.hasM 9 rfl));refine do_eq r1 |>.mpr (do_eq r2 |>.mpr ?_);obtain⟨xk,xc,xcs,rfl,hxa⟩:=hxv.open;have hxw:=kid_wt hi';refine o_oba ho fun b18 w9 ho=>?_;refine ob_put 0 hxa.keys.one hxa.kids.one ho rfl fun w10 ho=>?_;have ho:OwnS S w0 w10 ([obE b18 kids.kids[i] xk xc,obE b13 kids kk kc,obE b11 (Dk.follow d r) ok oc,obE b6 r rk rc]++nodeL L0 lb df b2 bt mb d vi vk vc lv' cs' s' 0 N' X):=ho;rw[ob_v ho 0 rfl,wrap64_id (by omega) (by omega),show (25 - (f:Int))+1=25 - (g:Int) by omega];have ho2:OwnS S w0 w10 (nodeL L0 lb df b2 bt mb d vi vk vc lv' cs' s' 0 N' ([obE b18 kids.kids[i] xk xc,obE b13 kids kk kc,obE b11 (Dk.follow d r) ok oc,obE b6 r rk rc]++X)):=
     OwnS.front (A:=[obE b18 kids.kids[i] xk xc,obE b13 kids kk kc,obE b11 (Dk.follow d r) ok oc,obE b6 r rk rc]) (B:=nodeL L0 lb df b2 bt mb d vi vk vc lv' cs' s' 0 N' []) (C:=X) ho
    refine c_any (ih g (by omega) kids.kids[i] _ av' (Dk.follow d r::ab) s' lv' cs' dcs N' _ w10 (fun e W=>∃(N2:Mem) (lv2:Value) (cs2:List Value),N'.le N2∧LVs N2.A N2.w cs2 (Pg.node d g kids.kids[i] (Dk.follow d r::ab) s').1.pages∧e=.returned (.bool (decide ((Pg.node d g kids.kids[i] (Dk.follow d r::ab) s').2=0))) ∧
     OwnS S w0 W (nodeL L0 lb df b2 bt mb d vi vk vc lv2 cs2 (Pg.node d g kids.kids[i] (Dk.follow d r::ab) s').1 (Pg.node d g kids.kids[i] (Dk.follow d r::ab) s').2 N2 ([obE b18 kids.kids[i] xk xc,obE b13 kids kk kc,obE b11 (Dk.follow d r) ok oc,obE b6 r rk rc]++X)))
     (by omega) (by rw[List.length_cons];omega) (by omega) (((hxv.le hle4).le hle')) (hch.le hle') (hda.le (hle04.trans hle')) hls' hbd' ho2 (fun N2 lv2 cs2 W a b c=>⟨N2,lv2,cs2,a,b,rfl,c⟩)) ?_
    rintro e w11 ⟨N2,lv2,cs2,hle2',hls2,rfl,ho⟩;rw[Pg.foldE_drop hi'] at heq;have hbd2:=Pg.node_bd (d:=d) g kids.kids[i] (Dk.follow d r::ab) s' (by omega) hbd';generalize hnd:Pg.node d g kids.kids[i] (Dk.follow d r::ab) s'=nd at *;simp only[Cont,rs];by_cases he:nd.2=0
    ·rw[if_neg (by simp[he])] at heq;simp only[he,decide_true,Bool.not_true,i_f];rw[he] at ho;rw[wrap64_id (by omega) (by omega)];have ho3:OwnS S w0 w11 ([obE b18 kids.kids[i] xk xc,obE b13 kids kk kc,obE b11 (Dk.follow d r) ok oc,obE b6 r rk rc]++(nodeL L0 lb df b2 bt mb d vi vk vc lv2 cs2 nd.1 0 N2 []++X)):=
      OwnS.front (A:=nodeL L0 lb df b2 bt mb d vi vk vc lv2 cs2 nd.1 0 N2 []) (B:=[obE b18 kids.kids[i] xk xc,obE b13 kids kk kc,obE b11 (Dk.follow d r) ok oc,obE b6 r rk rc]) (C:=X) ho
     exact nextX ⟨i+1,N2,lv2,cs2,nd.1,rfl,by omega,hle'.trans hle2',hls2,hbd2,heq,ho3.tail⟩ (by simp[n0,RowKit.intOf];omega)
    ·rw[if_pos he] at heq;simp only[he,decide_false,Bool.not_false,i_t];rw[heq] at hK;have:=hK N2 lv2 cs2 w11 (hle04.trans (hle'.trans hle2')) hls2 (ho.sub (.cons_cons _ (.cons_cons _ (.cons_cons _ (.cons_cons _ (.cons_cons _ (.cons_cons _ (.cons_cons _ (List.sublist_append_right _ X)))))))));rw[decide_eq_false he] at this;exact this
   ·simp only[hlt,decide_false,i_f];rw[List.drop_eq_nil_of_le (by omega),Pg.foldE] at heq;rw[heq] at hK;exact hK N' lv' cs' w8 (hle04.trans hle') hls' ho.tail.tail.tail
 have fE:∀(B pg:Bool),B=Pg.badN d r→(B=false→(pg=true↔Pg.leafB d (Dk.follow d r)=true)) →
   (if B=true then (24:Int) else if r.n∈s.met then 11 else if 24 < 25 - (f:Int) then 7 else if s.met.length=4096∨(pg=true∧s.pages.length=2048) then 6 else 0)=Pg.errN d f r s:=by
  intro B pg hB hpg;unfold Pg.errN;rw[←hB];cases B with
 |true=>rfl
 |false=>simp only[propext (hpg rfl)]
 have err:∀(B pg:Bool),B=Pg.badN d r→(B=false→(pg=true↔Pg.leafB d (Dk.follow d r)=true))→∀(e:Int) (W:World),
   e=(if B=true then (24:Int) else if r.n∈s.met then 11 else if 24 < 25 - (f:Int) then 7 else if s.met.length=4096∨(pg=true∧s.pages.length=2048) then 6 else 0)→e≠0 →
   OwnS S w0 W ((obE b13 (Pg.val d (Dk.follow d r) Pg.kidsK) kk kc::obE b11 (Dk.follow d r) ok oc::obE b6 r rk rc::nodeL L0 lb df b2 bt mb d vi vk vc lv cs s 0 N3 X).set 7 (trE35 bt d vi vk vc mb s.pages.length e))→K (.returned (.bool false)) W:=by
  intro B pg hB hpg e W he h0 ho;rw[fE B pg hB hpg] at he;rw[Pg.node_err (ab:=ab) hbd (by rw[←he];exact h0) hf] at hK;have:=hK N3 lv cs W hle03 (hls.le hle03) (by rw[←he];exact ho.tail.tail.tail);rw[decide_eq_false (by rw[←he];exact h0)] at this;exact this
 have hbe:=Pg.bad_eq (d:=d) (r:=r);unfold S_pages_tree_node_1;rw[fa_o1,ob_n ho 2 rfl];simp only[rs];rw[fa_o0,ob_k ho 2 rfl];simp only[rs];by_cases hr8:r.k=8
 case neg=>
  simp only[hr8,ne_eq,not_false_eq_true,decide_true,rs,g_un];refine c_tests (B:=true) 7 8 (by omega) ho rfl rfl (err true _ (by rw[hbe];simp[hr8]) (fun h=>by cases h)) (fun h=>?_);simp at h
 simp only[hr8,ne_eq,not_true,decide_false,rs];by_cases hk0:Pg.kindS d (Dk.follow d r)=[]
 ·simp only[hk0,decide_true,rs,g_un];refine c_tests (B:=true) 7 8 (by omega) ho rfl rfl (err true _ (by rw[hbe];simp[hk0]) (fun h=>by cases h)) (fun h=>?_);simp at h
 simp only[hk0,decide_false,rs];have h7:(Dk.follow d r).k=7:=by
  rcases Classical.em ((Dk.follow d r).k=7) with h|h
  ·exact h
  ·exact absurd (by unfold Pg.kindS;rw[if_pos h]) hk0
 have hkp:=Pg.kind_page (d:=d) (o:=Dk.follow d r);by_cases hpg:Pg.kindS d (Dk.follow d r)=[80,97,103,101]
 ·have hpg':Pg.kindS d (Dk.follow d r)=Pg.pageN:=hpg;have hb:false=Pg.badN d r:=by rw[hbe];simp[hr8,hpg',Pg.pageN]
  have hl:(false=false→(true=true↔Pg.leafB d (Dk.follow d r)=true)):=fun _=>by simp[(hkp.1 hpg').2]
  simp only[hpg,decide_true,Bool.not_true,rs,g_un];refine c_tests (B:=false) (pg:=true) 7 8 (by omega) ho rfl rfl (err false true hb hl) (fun h W ho=>?_);have:=main true (hl rfl) (by rw[←fE false true hb hl];exact h) W ho;simp only[rs] at this;exact this
 ·have hpg':¬Pg.kindS d (Dk.follow d r)=Pg.pageN:=hpg;have hl:(false=false→(false=true↔Pg.leafB d (Dk.follow d r)=true)):=fun _=>by
   constructor
   ·intro h;cases h
   ·intro h;exact absurd (hkp.2 ⟨h7,h⟩) hpg'
  simp only[hpg,decide_false,Bool.not_false,rs,fa_o0,ob_k ho 0 rfl];by_cases h6:(Pg.val d (Dk.follow d r) Pg.kidsK).k=6
  ·have hb:false=Pg.badN d r:=by rw[hbe];simp[hr8,hk0,hpg',h6]
   simp only[h6,ne_eq,not_true,decide_false,rs,g_un];refine c_tests (B:=false) (pg:=false) 7 8 (by omega) ho rfl rfl (err false false hb hl) (fun h W ho=>?_);have:=main false (hl rfl) (by rw[←fE false false hb hl];exact h) W ho;simp only[rs] at this;exact this
  ·simp only[h6,ne_eq,not_false_eq_true,decide_true,rs,g_un];refine c_tests (B:=true) 7 8 (by omega) ho rfl rfl (err true _ (by rw[hbe];simp[h6,hpg',hr8,hk0]) (fun h=>by cases h)) (fun h=>?_);simp at h
end
end Go.Proofs.YtoobidofdpdkbaaGreatDoor
