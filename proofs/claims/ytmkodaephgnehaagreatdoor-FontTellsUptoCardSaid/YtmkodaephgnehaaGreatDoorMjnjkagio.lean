/- Texts that go together: SFontM FoM FoN FoH FoI FoJ EngAI SFontC SMake6 FoO FoP FoQ FoR FoS Plain47C FoT SLaw47 EngV FoU FoV FoW FoX FoY FoZ LayR FoRow GoesN. -/
import Derived.Test.YtmkodaephgnehaaGreatDoorRows
import Derived.Lib.LaidU8T
import GoSem.ClaimGoes
import Derived.KernelRfl
import Derived.Test.YtmkodaephgnehaaGreatDoorMejpblbll
import Derived.Test.YtmkodaephgnehaaGreatDoorMhlgoppdo
import Derived.Test.YtmkodaephgnehaaGreatDoorMbbklgjan
import Derived.Test.YtmkodaephgnehaaGreatDoorModldendm
set_option linter.defProp false
set_option linter.unusedSimpArgs false
set_option linter.unusedVariables false
set_option maxRecDepth 20000
open Go.Proofs.Tryz (prog)
namespace Go.Proofs.YtmkodaephgnehaaGreatDoor
section
open Eng
def S_font_maker_add_0 (t0 t2 t6 t7 t8:Value)(w:World)(K:Ending→World→Prop):Prop:=
 CallX prog 42 #[t2] w (pk K) fun t22 w=>
 DoX prog (mLoad 50 t7) w (pk K) fun t24 w=>
 DoX prog (mNil t0) w (pk K) fun t25 w=>
 DoX prog (mFA 77 t25 0) w (pk K) fun t26 w=>
 DoX prog (mStore 50 t26 t24) w (pk K) fun _ w=>
 CallX prog 77 #[t8,(.int .i64 0)] w (pk K) fun t28 w=>
 DoX prog (mStore 48 t6 t28) w (pk K) fun _ w=>
 RetX prog [.cell t6 48] w K
def S_font_maker_add (t0 t1 t2:Value)(w:World)(K:Ending→World→Prop):Prop:=
 DoX prog (mBox 48 t1) w (pk K) fun t4 w=>
 DoX prog (mAlloc 48) w (pk K) fun t6 w=>
 CallX prog 42 #[t2] w (pk K) fun t10 w=>
 HeldX w (fun S1 w=>
 HDo prog (fun _=>True) (mNil t0) fun t13=>
 HDo prog (fun _=>True) (mFA 77 t13 0) fun t14=>
 HDo prog S1 (mLoad 50 t14) fun t15=>
 HDo prog S1 (mLoad 48 t4) fun t16=>
 (CallX prog 76 #[t15,t16] w (pm1 (pm1 (pm1 (pm1 (pm1 (pm1 (pm1 (pm1 (pm1 (pm1 (pm1 (pk K)))))))))))) fun t17 w=>
 (HDo prog (fun _=>True) (mExt t17 0) fun t18=>
 HDo prog (fun _=>True) (mExt t17 1) fun t19=>
 HDo prog (fun _=>True) (mExt t17 2) fun t20=>
 DoX prog (mAlloc 50) w (pm1 (pm1 (pm1 (pm1 (pm1 (pm1 (pm1 (pm1 (pm1 (pm1 (pm1 (pk K)))))))))))) fun t7 w=>
 S1 w∧(DoX prog (mStore 50 t7 t18) w (pm1 (pm1 (pm1 (pm1 (pm1 (pm1 (pm1 (pm1 (pm1 (pm1 (pm1 (pk K)))))))))))) fun _ w=>
 (S_font_maker_add_0 t0 t20 t6 t7 t19 w K))))∧(DoX prog (mAlloc 50) w (pm1 (pm1 (pm1 (pm1 (pm1 (pm1 (pm1 (pm1 (pm1 (pm1 (pm1 (pk K)))))))))))) fun t7_1 w=>
 S1 w∧(CallX prog 76 #[t15,t16] w (pm1 (pm1 (pm1 (pm1 (pm1 (pm1 (pm1 (pm1 (pm1 (pm1 (pm1 (pk K)))))))))))) fun t17_1 w=>
 (HDo prog (fun _=>True) (mExt t17_1 0) fun t18_1=>
 HDo prog (fun _=>True) (mExt t17_1 1) fun t19_1=>
 HDo prog (fun _=>True) (mExt t17_1 2) fun t20_1=>
 DoX prog (mStore 50 t7_1 t18_1) w (pm1 (pm1 (pm1 (pm1 (pm1 (pm1 (pm1 (pm1 (pm1 (pm1 (pm1 (pk K)))))))))))) fun _ w=>
 (S_font_maker_add_0 t0 t20_1 t6 t7_1 t19_1 w K)))))
theorem S_font_maker_add_eq (t0 t1 t2:Value)(w:World)(K:Ending→World→Prop):wpX prog 29 [] [] none (bodyOf Tryz.f43) (topQ prog [.cell 6 48] K) (startX [t0,t1,t2]) [] w=S_font_maker_add t0 t1 t2 w K:=by kernel_rfl
theorem S_font_maker_add_ok {t0 t1 t2:Value}{w:World}{K:Ending→World→Prop}(h:S_font_maker_add t0 t1 t2 w K):Calls prog 43 #[t0,t1,t2] w K:=
 calls_of_wpX Tryz.func43 rfl rfl rfl rfl (Eq.mpr (S_font_maker_add_eq t0 t1 t2 w K) h)
def S_font_dict_1 (t4 t11:Value)(w:World)(N1:List Value→World→Prop)(K:Ending→World→Prop):Prop:=
 DoX prog (mBin .add 3 t11 (.int .i64 1)) w (pk K) fun t31 w=>
 N1 [t4,t31] w
def S_font_dict_0 (t2 t4 t9 t10 t11:Value)(w:World)(N1:List Value→World→Prop)(K:Ending→World→Prop):Prop:=
 DoX prog (mBin .lss 3 t11 t10) w (pk K) fun t12 w=>
 IfX t12 (JoinX (fun J2=>
 DoX prog (mIA 78 t9 t11) w (pk K) fun t13 w=>
 DoX prog (mLoad 20 t13) w (pk K) fun t14 w=>
 DoX prog (mTA t14 20 9 true) w (pk K) fun t16 w=>
 DoX prog (mExt t16 1) w (pk K) fun t17 w=>
 DoX prog (mExt t16 0) w (pk K) fun t18 w=>
 IfX t17 (CallX prog 70 #[t18] w (pk K) fun t21 w=>
 DoX prog (mBuildS 46 1 #[(0,t21)]) w (pk K) fun t22 w=>
 DoX prog (mB .append #[46,46] 46 #[false,false] #[t4,t22]) w (pk K) fun t23 w=>
 J2 [t23] w) (DoX prog (mTA t14 20 48 true) w (pk K) fun t24 w=>
 DoX prog (mExt t24 1) w (pk K) fun t25 w=>
 DoX prog (mExt t24 0) w (pk K) fun t26 w=>
 IfX t25 (DoX prog (mAlloc 48) w (pk K) fun t8 w=>
 DoX prog (mStore 48 t8 t26) w (pk K) fun _ w=>
 DoX prog (mLoad 48 t8) w (pk K) fun t28 w=>
 DoX prog (mBuildS 46 1 #[(0,t28)]) w (pk K) fun t29 w=>
 DoX prog (mB .append #[46,46] 46 #[false,false] #[t4,t29]) w (pk K) fun t30 w=>
 J2 [t30] w) (J2 [t4] w))) (fun vs2 w=>∀_:Sg,S_font_dict_1 (vs2.getD 0 undef) t11 w N1 K)) (CallX prog 81 #[t4] w (pk K) fun t33 w=>
 DoX prog (mExt t33 0) w (pk K) fun t34 w=>
 DoX prog (mExt t33 1) w (pk K) fun t35 w=>
 DoX prog (mStore 48 t2 t34) w (pk K) fun _ w=>
 RetX prog [.cell t2 48,.val t35] w K)
def S_font_dict (t0:Value)(w:World)(K:Ending→World→Prop):Prop:=
 DoX prog (mAlloc 48) w (pk K) fun t2 w=>
 DoX prog (mB .len #[78] 3 #[false] #[t0]) w (pk K) fun t10 w=>
 LoopX [(.slice none 0 0),(.int .i64 0)] w (fun vs1 w N1=>∀_:Sg,S_font_dict_0 t2 (vs1.getD 0 undef) t0 t10 (vs1.getD 1 undef) w N1 K)
theorem S_font_dict_eq (t0:Value)(w:World)(K:Ending→World→Prop):wpX prog 36 [(12,[4])] [(3,[4,11])] none (bodyOf Tryz.f45) (topQ prog [.cell 2 48,.tmp 3] K) (startX [t0]) [] w=S_font_dict t0 w K:=by kernel_rfl
theorem S_font_dict_ok {t0:Value}{w:World}{K:Ending→World→Prop}(h:S_font_dict t0 w K):Calls prog 45 #[t0] w K:=
 calls_of_wpX Tryz.func45 rfl rfl rfl rfl (Eq.mpr (S_font_dict_eq t0 w K) h)
def S_font_ints_0 (t2 t3 t6 t7 t8:Value)(w:World)(N1:List Value→World→Prop)(K:Ending→World→Prop):Prop:=
 DoX prog (mBin .lss 3 t8 t7) w (pk K) fun t9 w=>
 IfX t9 (DoX prog (mIA 22 t6 t8) w (pk K) fun t10 w=>
 DoX prog (mLoad 2 t10) w (pk K) fun t11 w=>
 CallX prog 67 #[t11] w (pk K) fun t14 w=>
 DoX prog (mBuildS 46 1 #[(0,t14)]) w (pk K) fun t15 w=>
 DoX prog (mB .append #[46,46] 46 #[false,false] #[t3,t15]) w (pk K) fun t16 w=>
 DoX prog (mBin .add 3 t8 (.int .i64 1)) w (pk K) fun t17 w=>
 N1 [t16,t17] w) (CallX prog 68 #[t3] w (pk K) fun t19 w=>
 DoX prog (mStore 48 t2 t19) w (pk K) fun _ w=>
 RetX prog [.cell t2 48] w K)
def S_font_ints (t0:Value)(w:World)(K:Ending→World→Prop):Prop:=
 DoX prog (mAlloc 48) w (pk K) fun t2 w=>
 DoX prog (mB .len #[22] 3 #[false] #[t0]) w (pk K) fun t7 w=>
 LoopX [(.slice none 0 0),(.int .i64 0)] w (fun vs1 w N1=>∀_:Sg,S_font_ints_0 t2 (vs1.getD 0 undef) t0 t7 (vs1.getD 1 undef) w N1 K)
theorem S_font_ints_eq (t0:Value)(w:World)(K:Ending→World→Prop):wpX prog 20 [] [(3,[3,8])] none (bodyOf Tryz.f69) (topQ prog [.cell 2 48] K) (startX [t0]) [] w=S_font_ints t0 w K:=by kernel_rfl
theorem S_font_ints_ok {t0:Value}{w:World}{K:Ending→World→Prop}(h:S_font_ints t0 w K):Calls prog 69 #[t0] w K:=
 calls_of_wpX Tryz.func69 rfl rfl rfl rfl (Eq.mpr (S_font_ints_eq t0 w K) h)
def S_font_narrowly_5 (t3:Value)(w:World)(K:Ending→World→Prop):Prop:=
 K (.returned t3) w
def S_font_narrowly_4 (t3 t6 t77 t78 t79:Value)(w:World)(J5 N6:List Value→World→Prop)(K:Ending→World→Prop):Prop:=
 DoX prog (mBin .lss 3 t79 t78) w (pk K) fun t80 w=>
 IfX t80 (DoX prog (mIA 23 t77 t79) w (pk K) fun t81 w=>
 DoX prog (mLoad 9 t81) w (pk K) fun t82 w=>
 CallX prog 70 #[t82] w (pk K) fun t85 w=>
 DoX prog (mBuildS 46 1 #[(0,t85)]) w (pk K) fun t86 w=>
 DoX prog (mB .append #[46,46] 46 #[false,false] #[t6,t86]) w (pk K) fun t87 w=>
 DoX prog (mBin .add 3 t79 (.int .i64 1)) w (pk K) fun t88 w=>
 N6 [t87,t88] w) (DoX prog (mIface 9 (.string ⟨#[84,121,112,101]⟩)) w (pk K) fun t90 w=>
 DoX prog (mIface 9 (.string ⟨#[69,110,99,111,100,105,110,103]⟩)) w (pk K) fun t91 w=>
 DoX prog (mIface 9 (.string ⟨#[68,105,102,102,101,114,101,110,99,101,115]⟩)) w (pk K) fun t92 w=>
 CallX prog 68 #[t6] w (pk K) fun t94 w=>
 DoX prog (mIface 48 t94) w (pk K) fun t95 w=>
 DoX prog (mBuildS 78 4 #[(0,t90),(1,t91),(2,t92),(3,t95)]) w (pk K) fun t96 w=>
 CallX prog 45 #[t96] w (pk K) fun t97 w=>
 DoX prog (mExt t97 0) w (pk K) fun t98 w=>
 DoX prog (mExt t97 1) w (pk K) fun t99 w=>
 DoX prog (mAlloc 48) w (pk K) fun t9 w=>
 DoX prog (mStore 48 t9 t98) w (pk K) fun _ w=>
 CallX prog 42 #[t99] w (pk K) fun t101 w=>
 DoX prog (mIface 9 (.string ⟨#[69,110,99,111,100,105,110,103]⟩)) w (pk K) fun t103 w=>
 DoX prog (mLoad 48 t9) w (pk K) fun t104 w=>
 DoX prog (mIface 48 t104) w (pk K) fun t105 w=>
 DoX prog (mBuildS 78 2 #[(0,t103),(1,t105)]) w (pk K) fun t106 w=>
 DoX prog (mB .append #[78,78] 78 #[false,false] #[t3,t106]) w (pk K) fun t107 w=>
 J5 [t107] w)
def S_font_narrowly_3 (t1 t3:Value)(w:World)(K:Ending→World→Prop):Prop:=
 JoinX (fun J5=>
 DoX prog (mFA 26 t1 5) w (pk K) fun t70 w=>
 DoX prog (mLoad 23 t70) w (pk K) fun t71 w=>
 DoX prog (mB .len #[23] 3 #[false] #[t71]) w (pk K) fun t72 w=>
 DoX prog (mBin .gtr 3 t72 (.int .i64 0)) w (pk K) fun t73 w=>
 IfX t73 (CallX prog 67 #[(.int .i64 0)] w (pk K) fun t74 w=>
 DoX prog (mBuildS 46 1 #[(0,t74)]) w (pk K) fun t75 w=>
 DoX prog (mFA 26 t1 5) w (pk K) fun t76 w=>
 DoX prog (mLoad 23 t76) w (pk K) fun t77 w=>
 DoX prog (mB .len #[23] 3 #[false] #[t77]) w (pk K) fun t78 w=>
 LoopX [t75,(.int .i64 0)] w (fun vs6 w N6=>∀_:Sg,S_font_narrowly_4 t3 (vs6.getD 0 undef) t77 t78 (vs6.getD 1 undef) w J5 N6 K)) (J5 [t3] w)) (fun vs5 w=>∀_:Sg,S_font_narrowly_5 (vs5.getD 0 undef) w K)
def S_font_narrowly_2 (t3 t4 t5:Value)(w:World)(J3:List Value→World→Prop)(K:Ending→World→Prop):Prop:=
 CallX prog 42 #[t5] w (pk K) fun t63 w=>
 DoX prog (mIface 9 (.string ⟨#[70,111,110,116,68,101,115,99,114,105,112,116,111,114]⟩)) w (pk K) fun t65 w=>
 DoX prog (mLoad 48 t4) w (pk K) fun t66 w=>
 DoX prog (mIface 48 t66) w (pk K) fun t67 w=>
 DoX prog (mBuildS 78 2 #[(0,t65),(1,t67)]) w (pk K) fun t68 w=>
 DoX prog (mB .append #[78,78] 78 #[false,false] #[t3,t68]) w (pk K) fun t69 w=>
 J3 [t69] w
def S_font_narrowly_1 (t1 t3:Value)(w:World)(K:Ending→World→Prop):Prop:=
 JoinX (fun J3=>
 DoX prog (mFA 26 t1 4) w (pk K) fun t43 w=>
 DoX prog (mLoad 2 t43) w (pk K) fun t44 w=>
 DoX prog (mBin .gtr 2 t44 (.int .i64 0)) w (pk K) fun t45 w=>
 IfX t45 (HeldX w (fun S4 w=>
 HDo prog (fun _=>True) (mIface 9 (.string ⟨#[84,121,112,101]⟩)) fun t47=>
 HDo prog (fun _=>True) (mIface 9 (.string ⟨#[70,111,110,116,68,101,115,99,114,105,112,116,111,114]⟩)) fun t48=>
 HDo prog (fun _=>True) (mIface 9 (.string ⟨#[70,111,110,116,78,97,109,101]⟩)) fun t49=>
 HDo prog (fun _=>True) (mFA 26 t1 0) fun t50=>
 HDo prog S4 (mLoad 9 t50) fun t51=>
 HDo prog (fun _=>True) (mIface 9 t51) fun t52=>
 HDo prog (fun _=>True) (mIface 9 (.string ⟨#[77,105,115,115,105,110,103,87,105,100,116,104]⟩)) fun t53=>
 HDo prog (fun _=>True) (mFA 26 t1 4) fun t54=>
 HDo prog S4 (mLoad 2 t54) fun t55=>
 (CallX prog 67 #[t55] w (pm1 (pm1 (pm1 (pm1 (pm1 (pm1 (pm1 (pm1 (pm1 (pm1 (pm1 (pm1 (pm1 (pm1 (pk K))))))))))))))) fun t56 w=>
 S4 w∧(HDo prog (fun _=>True) (mIface 48 t56) fun t57=>
 (DoX prog (mBuildS 78 6 #[(0,t47),(1,t48),(2,t49),(3,t52),(4,t53),(5,t57)]) w (pm1 (pm1 (pm1 (pm1 (pm1 (pm1 (pm1 (pm1 (pm1 (pm1 (pm1 (pm1 (pm1 (pm1 (pk K))))))))))))))) fun t58 w=>
 S4 w∧((CallX prog 45 #[t58] w (pm1 (pm1 (pm1 (pm1 (pm1 (pm1 (pm1 (pm1 (pm1 (pm1 (pm1 (pm1 (pm1 (pm1 (pk K))))))))))))))) fun t59 w=>
 S4 w∧(HDo prog (fun _=>True) (mExt t59 0) fun t60=>
 HDo prog (fun _=>True) (mExt t59 1) fun t61=>
 DoX prog (mAlloc 48) w (pm1 (pm1 (pm1 (pm1 (pm1 (pm1 (pm1 (pm1 (pm1 (pm1 (pm1 (pm1 (pm1 (pm1 (pk K))))))))))))))) fun t4 w=>
 S4 w∧(DoX prog (mStore 48 t4 t60) w (pm1 (pm1 (pm1 (pm1 (pm1 (pm1 (pm1 (pm1 (pm1 (pm1 (pm1 (pm1 (pm1 (pm1 (pk K))))))))))))))) fun _ w=>
 (S_font_narrowly_2 t3 t4 t61 w J3 K))))∧(DoX prog (mAlloc 48) w (pm1 (pm1 (pm1 (pm1 (pm1 (pm1 (pm1 (pm1 (pm1 (pm1 (pm1 (pm1 (pm1 (pm1 (pk K))))))))))))))) fun t4_1 w=>
 S4 w∧(CallX prog 45 #[t58] w (pm1 (pm1 (pm1 (pm1 (pm1 (pm1 (pm1 (pm1 (pm1 (pm1 (pm1 (pm1 (pm1 (pm1 (pk K))))))))))))))) fun t59_1 w=>
 S4 w∧(HDo prog (fun _=>True) (mExt t59_1 0) fun t60_1=>
 HDo prog (fun _=>True) (mExt t59_1 1) fun t61_1=>
 DoX prog (mStore 48 t4_1 t60_1) w (pm1 (pm1 (pm1 (pm1 (pm1 (pm1 (pm1 (pm1 (pm1 (pm1 (pm1 (pm1 (pm1 (pm1 (pk K))))))))))))))) fun _ w=>
 (S_font_narrowly_2 t3 t4_1 t61_1 w J3 K))))))∧(DoX prog (mAlloc 48) w (pm1 (pm1 (pm1 (pm1 (pm1 (pm1 (pm1 (pm1 (pm1 (pm1 (pm1 (pm1 (pm1 (pm1 (pk K))))))))))))))) fun t4_2 w=>
 S4 w∧(DoX prog (mBuildS 78 6 #[(0,t47),(1,t48),(2,t49),(3,t52),(4,t53),(5,t57)]) w (pm1 (pm1 (pm1 (pm1 (pm1 (pm1 (pm1 (pm1 (pm1 (pm1 (pm1 (pm1 (pm1 (pm1 (pk K))))))))))))))) fun t58_1 w=>
 S4 w∧(CallX prog 45 #[t58_1] w (pm1 (pm1 (pm1 (pm1 (pm1 (pm1 (pm1 (pm1 (pm1 (pm1 (pm1 (pm1 (pm1 (pm1 (pk K))))))))))))))) fun t59_2 w=>
 S4 w∧(HDo prog (fun _=>True) (mExt t59_2 0) fun t60_2=>
 HDo prog (fun _=>True) (mExt t59_2 1) fun t61_2=>
 DoX prog (mStore 48 t4_2 t60_2) w (pm1 (pm1 (pm1 (pm1 (pm1 (pm1 (pm1 (pm1 (pm1 (pm1 (pm1 (pm1 (pm1 (pm1 (pk K))))))))))))))) fun _ w=>
 (S_font_narrowly_2 t3 t4_2 t61_2 w J3 K)))))))∧(DoX prog (mAlloc 48) w (pm1 (pm1 (pm1 (pm1 (pm1 (pm1 (pm1 (pm1 (pm1 (pm1 (pm1 (pm1 (pm1 (pm1 (pk K))))))))))))))) fun t4_3 w=>
 S4 w∧(CallX prog 67 #[t55] w (pm1 (pm1 (pm1 (pm1 (pm1 (pm1 (pm1 (pm1 (pm1 (pm1 (pm1 (pm1 (pm1 (pm1 (pk K))))))))))))))) fun t56_1 w=>
 S4 w∧(HDo prog (fun _=>True) (mIface 48 t56_1) fun t57_1=>
 DoX prog (mBuildS 78 6 #[(0,t47),(1,t48),(2,t49),(3,t52),(4,t53),(5,t57_1)]) w (pm1 (pm1 (pm1 (pm1 (pm1 (pm1 (pm1 (pm1 (pm1 (pm1 (pm1 (pm1 (pm1 (pm1 (pk K))))))))))))))) fun t58_2 w=>
 S4 w∧(CallX prog 45 #[t58_2] w (pm1 (pm1 (pm1 (pm1 (pm1 (pm1 (pm1 (pm1 (pm1 (pm1 (pm1 (pm1 (pm1 (pm1 (pk K))))))))))))))) fun t59_3 w=>
 S4 w∧(HDo prog (fun _=>True) (mExt t59_3 0) fun t60_3=>
 HDo prog (fun _=>True) (mExt t59_3 1) fun t61_3=>
 DoX prog (mStore 48 t4_3 t60_3) w (pm1 (pm1 (pm1 (pm1 (pm1 (pm1 (pm1 (pm1 (pm1 (pm1 (pm1 (pm1 (pm1 (pm1 (pk K))))))))))))))) fun _ w=>
 (S_font_narrowly_2 t3 t4_3 t61_3 w J3 K)))))))) (J3 [t3] w)) (fun vs3 w=>∀_:Sg,S_font_narrowly_3 t1 (vs3.getD 0 undef) w K)
def S_font_narrowly_0 (t1 t3:Value)(w:World)(K:Ending→World→Prop):Prop:=
 JoinX (fun J2=>
 DoX prog (mFA 26 t1 3) w (pk K) fun t31 w=>
 DoX prog (mLoad 22 t31) w (pk K) fun t32 w=>
 DoX prog (mB .len #[22] 3 #[false] #[t32]) w (pk K) fun t33 w=>
 DoX prog (mBin .gtr 3 t33 (.int .i64 0)) w (pk K) fun t34 w=>
 IfX t34 (DoX prog (mIface 9 (.string ⟨#[87,105,100,116,104,115]⟩)) w (pk K) fun t36 w=>
 DoX prog (mFA 26 t1 3) w (pk K) fun t37 w=>
 DoX prog (mLoad 22 t37) w (pk K) fun t38 w=>
 CallX prog 69 #[t38] w (pk K) fun t39 w=>
 DoX prog (mIface 48 t39) w (pk K) fun t40 w=>
 DoX prog (mBuildS 78 2 #[(0,t36),(1,t40)]) w (pk K) fun t41 w=>
 DoX prog (mB .append #[78,78] 78 #[false,false] #[t3,t41]) w (pk K) fun t42 w=>
 J2 [t42] w) (J2 [t3] w)) (fun vs2 w=>∀_:Sg,S_font_narrowly_1 t1 (vs2.getD 0 undef) w K)
def S_font_narrowly (t0:Value)(w:World)(K:Ending→World→Prop):Prop:=
 DoX prog (mBox 26 t0) w (pk K) fun t1 w=>
 DoX prog (mIface 9 (.string ⟨#[84,121,112,101]⟩)) w (pk K) fun t11 w=>
 DoX prog (mIface 9 (.string ⟨#[70,111,110,116]⟩)) w (pk K) fun t12 w=>
 DoX prog (mIface 9 (.string ⟨#[83,117,98,116,121,112,101]⟩)) w (pk K) fun t13 w=>
 DoX prog (mIface 9 (.string ⟨#[84,121,112,101,49]⟩)) w (pk K) fun t14 w=>
 DoX prog (mIface 9 (.string ⟨#[66,97,115,101,70,111,110,116]⟩)) w (pk K) fun t15 w=>
 DoX prog (mFA 26 t1 0) w (pk K) fun t16 w=>
 DoX prog (mLoad 9 t16) w (pk K) fun t17 w=>
 DoX prog (mIface 9 t17) w (pk K) fun t18 w=>
 DoX prog (mBuildS 78 6 #[(0,t11),(1,t12),(2,t13),(3,t14),(4,t15),(5,t18)]) w (pk K) fun t19 w=>
 JoinX (fun J1=>
 DoX prog (mFA 26 t1 2) w (pk K) fun t20 w=>
 DoX prog (mLoad 3 t20) w (pk K) fun t21 w=>
 DoX prog (mBin .lss 3 t21 (.int .i64 256)) w (pk K) fun t22 w=>
 IfX t22 (DoX prog (mIface 9 (.string ⟨#[70,105,114,115,116,67,104,97,114]⟩)) w (pk K) fun t24 w=>
 DoX prog (mFA 26 t1 2) w (pk K) fun t25 w=>
 DoX prog (mLoad 3 t25) w (pk K) fun t26 w=>
 CallX prog 67 #[t26] w (pk K) fun t27 w=>
 DoX prog (mIface 48 t27) w (pk K) fun t28 w=>
 DoX prog (mBuildS 78 2 #[(0,t24),(1,t28)]) w (pk K) fun t29 w=>
 DoX prog (mB .append #[78,78] 78 #[false,false] #[t19,t29]) w (pk K) fun t30 w=>
 J1 [t30] w) (J1 [t19] w)) (fun vs1 w=>∀_:Sg,S_font_narrowly_0 t1 (vs1.getD 0 undef) w K)
theorem S_font_narrowly_eq (t0:Value)(w:World)(K:Ending→World→Prop):wpX prog 109 [(4,[3]),(6,[3]),(10,[3]),(20,[3])] [(13,[6,79])] none (bodyOf Tryz.f40) (topQ prog [.tmp 2] K) (startX [t0]) [] w=S_font_narrowly t0 w K:=by kernel_rfl
theorem S_font_narrowly_ok {t0:Value}{w:World}{K:Ending→World→Prop}(h:S_font_narrowly t0 w K):Calls prog 40 #[t0] w K:=
 calls_of_wpX Tryz.func40 rfl rfl rfl rfl (Eq.mpr (S_font_narrowly_eq t0 w K) h)
def S_font_Make_p0 (x0:Deferred)(x1:Value)(x2:Value)(x3:Value)(K:Ending→World→Prop):=pd prog [.cell x1 50,.cell x2 48,.cell x3 30] K [x0]
def S_font_Make_1 (t4 t5 t6 t9 t10:Value)(d1:Deferred)(w:World)(K:Ending→World→Prop):Prop:=
 CallX prog 45 #[t10] w (S_font_Make_p0 d1 t4 t5 t6 K) fun t66 w=>
 DoX prog (mExt t66 0) w (S_font_Make_p0 d1 t4 t5 t6 K) fun t67 w=>
 DoX prog (mExt t66 1) w (S_font_Make_p0 d1 t4 t5 t6 K) fun t68 w=>
 CallX prog 43 #[t9,t67,t68] w (S_font_Make_p0 d1 t4 t5 t6 K) fun t69 w=>
 DoX prog (mStore 48 t5 t69) w (S_font_Make_p0 d1 t4 t5 t6 K) fun _ w=>
 HeldX w (fun S4 w=>
 HDo prog (fun _=>True) (mNil t9) fun t71=>
 HDo prog (fun _=>True) (mFA 77 t71 0) fun t72=>
 HDo prog S4 (mLoad 50 t72) fun t73=>
 HDo prog S4 (mLoad 48 t5) fun t74=>
 DoX prog (mStore 50 t4 t73) w (pm1 (pm1 (pm1 (pm1 (pm1 (S_font_Make_p0 d1 t4 t5 t6 K)))))) fun _ w=>
 S4 w∧(DoX prog (mStore 48 t5 t74) w (pm1 (pm1 (pm1 (pm1 (pm1 (S_font_Make_p0 d1 t4 t5 t6 K)))))) fun _ w=>
 (DoX prog (mStore 30 t6 (.int .i64 0)) w (pm1 (pm1 (pm1 (pm1 (pm1 (S_font_Make_p0 d1 t4 t5 t6 K)))))) fun _ w=>
 (Leave prog [.cell t4 50,.cell t5 48,.cell t6 30] K [d1] .returning w))))
def S_font_Make_0 (t3 t4 t5 t6 t9 t10:Value)(d1:Deferred)(w:World)(K:Ending→World→Prop):Prop:=
 JoinX (fun J3=>
 DoX prog (mFA 26 t3 6) w (S_font_Make_p0 d1 t4 t5 t6 K) fun t38 w=>
 DoX prog (mLoad 24 t38) w (S_font_Make_p0 d1 t4 t5 t6 K) fun t39 w=>
 DoX prog (mB .len #[24] 3 #[false] #[t39]) w (S_font_Make_p0 d1 t4 t5 t6 K) fun t40 w=>
 DoX prog (mBin .gtr 3 t40 (.int .i64 0)) w (S_font_Make_p0 d1 t4 t5 t6 K) fun t41 w=>
 IfX t41 (DoX prog (mFA 26 t3 6) w (S_font_Make_p0 d1 t4 t5 t6 K) fun t43 w=>
 DoX prog (mLoad 24 t43) w (S_font_Make_p0 d1 t4 t5 t6 K) fun t44 w=>
 DoX prog (mFA 26 t3 1) w (S_font_Make_p0 d1 t4 t5 t6 K) fun t45 w=>
 DoX prog (mLoad 4 t45) w (S_font_Make_p0 d1 t4 t5 t6 K) fun t46 w=>
 CallX prog 41 #[t44,t46] w (S_font_Make_p0 d1 t4 t5 t6 K) fun t47 w=>
 DoX prog (mExt t47 0) w (S_font_Make_p0 d1 t4 t5 t6 K) fun t48 w=>
 DoX prog (mExt t47 1) w (S_font_Make_p0 d1 t4 t5 t6 K) fun t49 w=>
 CallX prog 42 #[t49] w (S_font_Make_p0 d1 t4 t5 t6 K) fun t51 w=>
 DoX prog (mIface 9 (.string ⟨#[84,111,85,110,105,99,111,100,101]⟩)) w (S_font_Make_p0 d1 t4 t5 t6 K) fun t53 w=>
 DoX prog (mBuild 48 #[(0,(.int .i64 7))]) w (S_font_Make_p0 d1 t4 t5 t6 K) fun t55 w=>
 CallX prog 44 #[t55,t48] w (S_font_Make_p0 d1 t4 t5 t6 K) fun t57 w=>
 DoX prog (mExt t57 0) w (S_font_Make_p0 d1 t4 t5 t6 K) fun t58 w=>
 DoX prog (mExt t57 1) w (S_font_Make_p0 d1 t4 t5 t6 K) fun t59 w=>
 CallX prog 43 #[t9,t58,t59] w (S_font_Make_p0 d1 t4 t5 t6 K) fun t60 w=>
 DoX prog (mIface 48 t60) w (S_font_Make_p0 d1 t4 t5 t6 K) fun t61 w=>
 DoX prog (mBuildS 78 2 #[(0,t53),(1,t61)]) w (S_font_Make_p0 d1 t4 t5 t6 K) fun t62 w=>
 DoX prog (mB .append #[78,78] 78 #[false,false] #[t10,t62]) w (S_font_Make_p0 d1 t4 t5 t6 K) fun t63 w=>
 AtX [d1] [d1] (J3 [t63] w)) (AtX [d1] [d1] (J3 [t10] w))) (fun vs3 w=>∀_:Sg,S_font_Make_1 t4 t5 t6 t9 (vs3.getD 0 undef) d1 w K)
def S_font_Make (t0 t1:Value)(w:World)(K:Ending→World→Prop):Prop:=
 DoX prog (mBox 50 t0) w (pk K) fun t2 w=>
 DoX prog (mBox 26 t1) w (pk K) fun t3 w=>
 DoX prog (mAlloc 50) w (pk K) fun t4 w=>
 DoX prog (mAlloc 48) w (pk K) fun t5 w=>
 DoX prog (mAlloc 30) w (pk K) fun t6 w=>
 DoX prog (mLoad 50 t2) w (pk K) fun t13 w=>
 CallX prog 37 #[t13] w (pk K) fun t14 w=>
 DoX prog (mEq .neq 30 (.tmp 15) (.const (.int .i64 0)) t14 (.int .i64 0)) w (pk K) fun t16 w=>
 IfX t16 (DoX prog (mBuild 50 #[]) w (pk K) fun t17 w=>
 DoX prog (mBuild 48 #[]) w (pk K) fun t18 w=>
 DoX prog (mStore 50 t4 t17) w (pk K) fun _ w=>
 DoX prog (mStore 48 t5 t18) w (pk K) fun _ w=>
 DoX prog (mStore 30 t6 t14) w (pk K) fun _ w=>
 RetX prog [.cell t4 50,.cell t5 48,.cell t6 30] w K) (DoX prog (mLoad 26 t3) w (pk K) fun t20 w=>
 CallX prog 16 #[t20] w (pk K) fun t21 w=>
 DoX prog (mEq .neq 30 (.tmp 22) (.const (.int .i64 0)) t21 (.int .i64 0)) w (pk K) fun t23 w=>
 IfX t23 (DoX prog (mBuild 50 #[]) w (pk K) fun t24 w=>
 DoX prog (mBuild 48 #[]) w (pk K) fun t25 w=>
 DoX prog (mStore 50 t4 t24) w (pk K) fun _ w=>
 DoX prog (mStore 48 t5 t25) w (pk K) fun _ w=>
 DoX prog (mStore 30 t6 t21) w (pk K) fun _ w=>
 RetX prog [.cell t4 50,.cell t5 48,.cell t6 30] w K) (DoX prog (mFunc (.func 38) #[] #[t4,t5,t6]) w (pk K) fun t27 w=>
 DfrX (dfrV t27 #[]) (fun d1=>
 DoX prog (mLoad 50 t2) w (S_font_Make_p0 d1 t4 t5 t6 K) fun t28 w=>
 DoX prog (mBuild 77 #[(0,t28)]) w (S_font_Make_p0 d1 t4 t5 t6 K) fun t29 w=>
 DoX prog (mBox 77 t29) w (S_font_Make_p0 d1 t4 t5 t6 K) fun t30 w=>
 JoinX (fun J2=>
 DoX prog (mFA 26 t3 1) w (S_font_Make_p0 d1 t4 t5 t6 K) fun t31 w=>
 DoX prog (mLoad 4 t31) w (S_font_Make_p0 d1 t4 t5 t6 K) fun t32 w=>
 IfX t32 (DoX prog (mLoad 26 t3) w (S_font_Make_p0 d1 t4 t5 t6 K) fun t34 w=>
 CallX prog 39 #[t30,t34] w (S_font_Make_p0 d1 t4 t5 t6 K) fun t35 w=>
 AtX [d1] [d1] (J2 [t35] w)) (DoX prog (mLoad 26 t3) w (S_font_Make_p0 d1 t4 t5 t6 K) fun t36 w=>
 CallX prog 40 #[t36] w (S_font_Make_p0 d1 t4 t5 t6 K) fun t37 w=>
 AtX [d1] [d1] (J2 [t37] w))) (fun vs2 w=>∀_:Sg,S_font_Make_0 t3 t4 t5 t6 t30 (vs2.getD 0 undef) d1 w K))))
theorem S_font_Make_eq (t0 t1:Value)(w:World)(K:Ending→World→Prop):wpX prog 75 [(13,[10]),(17,[10])] [] none (bodyOf Tryz.f21) (topQ prog [.cell 4 50,.cell 5 48,.cell 6 30] K) (startX [t0,t1]) [] w=S_font_Make t0 t1 w K:=by kernel_rfl
theorem S_font_Make_ok {t0 t1:Value}{w:World}{K:Ending→World→Prop}(h:S_font_Make t0 t1 w K):Calls prog 21 #[t0,t1] w K:=
 calls_of_wpX Tryz.func21 rfl rfl rfl rfl (Eq.mpr (S_font_Make_eq t0 t1 w K) h)
def S_docs_Add (t0 t1:Value)(w:World)(K:Ending→World→Prop):Prop:=
 DoX prog (mBox 50 t0) w (pk K) fun t2 w=>
 DoX prog (mBox 48 t1) w (pk K) fun t3 w=>
 DoX prog (mAlloc 50) w (pk K) fun t4 w=>
 DoX prog (mLoad 50 t2) w (pk K) fun t10 w=>
 CallX prog 105 #[t10] w (pk K) fun t11 w=>
 DoX prog (mExt t11 0) w (pk K) fun t12 w=>
 DoX prog (mExt t11 1) w (pk K) fun t13 w=>
 DoX prog (mEq .neq 30 (.tmp 14) (.const (.int .i64 0)) t13 (.int .i64 0)) w (pk K) fun t15 w=>
 IfX t15 (DoX prog (mBuild 50 #[]) w (pk K) fun t16 w=>
 DoX prog (mStore 50 t4 t16) w (pk K) fun _ w=>
 RetX prog [.cell t4 50,.val (.int .i64 0),.val t13] w K) (DoX prog (mLoad 50 t2) w (pk K) fun t19 w=>
 DoX prog (mLoad 48 t3) w (pk K) fun t21 w=>
 DoX prog (mBuild 89 #[(0,t12),(2,t21)]) w (pk K) fun t22 w=>
 CallX prog 106 #[t19,t22] w (pk K) fun t23 w=>
 DoX prog (mExt t23 0) w (pk K) fun t24 w=>
 DoX prog (mExt t23 1) w (pk K) fun t25 w=>
 DoX prog (mStore 50 t2 t24) w (pk K) fun _ w=>
 DoX prog (mEq .neq 30 (.tmp 26) (.const (.int .i64 0)) t25 (.int .i64 0)) w (pk K) fun t27 w=>
 IfX t27 (DoX prog (mBuild 50 #[]) w (pk K) fun t28 w=>
 DoX prog (mStore 50 t4 t28) w (pk K) fun _ w=>
 RetX prog [.cell t4 50,.val (.int .i64 0),.val t25] w K) (DoX prog (mLoad 50 t2) w (pk K) fun t30 w=>
 DoX prog (mStore 50 t4 t30) w (pk K) fun _ w=>
 RetX prog [.cell t4 50,.val t12,.val (.int .i64 0)] w K))
theorem S_docs_Add_eq (t0 t1:Value)(w:World)(K:Ending→World→Prop):wpX prog 32 [] [] none (bodyOf Tryz.f76) (topQ prog [.cell 4 50,.tmp 5,.tmp 6] K) (startX [t0,t1]) [] w=S_docs_Add t0 t1 w K:=by kernel_rfl
theorem S_docs_Add_ok {t0 t1:Value}{w:World}{K:Ending→World→Prop}(h:S_docs_Add t0 t1 w K):Calls prog 76 #[t0,t1] w K:=
 calls_of_wpX Tryz.func76 rfl rfl rfl rfl (Eq.mpr (S_docs_Add_eq t0 t1 w K) h)
def S_docs_Free_0 (t5:Value)(w:World)(K:Ending→World→Prop):Prop:=
 DoX prog (mBin .gtr 3 t5 (.int .i64 8191)) w (pk K) fun t26 w=>
 IfX t26 (K (.returned (.tuple #[(.int .i64 0),(.int .i64 30)])) w) (K (.returned (.tuple #[t5,(.int .i64 0)])) w)
def S_docs_Free (t0:Value)(w:World)(K:Ending→World→Prop):Prop:=
 DoX prog (mBox 50 t0) w (pk K) fun t1 w=>
 DoX prog (mLoad 50 t1) w (pk K) fun t7 w=>
 CallX prog 37 #[t7] w (pk K) fun t8 w=>
 DoX prog (mEq .neq 30 (.tmp 9) (.const (.int .i64 0)) t8 (.int .i64 0)) w (pk K) fun t10 w=>
 IfX t10 (K (.returned (.tuple #[(.int .i64 0),t8])) w) (JoinX (fun J1=>
 DoX prog (mFA 50 t1 0) w (pk K) fun t12 w=>
 DoX prog (mLoad 45 t12) w (pk K) fun t13 w=>
 DoX prog (mB .len #[45] 3 #[false] #[t13]) w (pk K) fun t14 w=>
 DoX prog (mBin .gtr 3 t14 (.int .i64 0)) w (pk K) fun t16 w=>
 IfX t16 (DoX prog (mFA 50 t1 0) w (pk K) fun t17 w=>
 DoX prog (mLoad 45 t17) w (pk K) fun t18 w=>
 DoX prog (mBin .sub 3 t14 (.int .i64 1)) w (pk K) fun t20 w=>
 DoX prog (mIA 45 t18 t20) w (pk K) fun t21 w=>
 DoX prog (mFA 89 t21 0) w (pk K) fun t22 w=>
 DoX prog (mLoad 3 t22) w (pk K) fun t23 w=>
 DoX prog (mBin .add 3 t23 (.int .i64 1)) w (pk K) fun t24 w=>
 J1 [t24] w) (J1 [(.int .i64 1)] w)) (fun vs1 w=>∀_:Sg,S_docs_Free_0 (vs1.getD 0 undef) w K))
theorem S_docs_Free_eq (t0:Value)(w:World)(K:Ending→World→Prop):wpX prog 28 [(8,[5])] [] none (bodyOf Tryz.f105) (topQ prog [.tmp 2,.tmp 3] K) (startX [t0]) [] w=S_docs_Free t0 w K:=by kernel_rfl
theorem S_docs_Free_ok {t0:Value}{w:World}{K:Ending→World→Prop}(h:S_docs_Free t0 w K):Calls prog 105 #[t0] w K:=
 calls_of_wpX Tryz.func105 rfl rfl rfl rfl (Eq.mpr (S_docs_Free_eq t0 w K) h)
end
section
open Eng Go.RowKit
namespace Fo
inductive Arg
|s (x:List UInt8)
|o (x:Ob)
def Arg.ob:Arg→Ob
|.s x=>nm x
|.o x=>x
end Fo
def ArV (A:Nat→Prop)(w:World)(v:Value):Fo.Arg→Prop
|.s x=>v=.iface 9 (.string ⟨x.toArray⟩)
|.o x=>∃vk vc,v=.iface 48 (obV x vk vc)∧OV A w (obV x vk vc) x
def ArVs (A:Nat→Prop)(w:World):List Value→List Fo.Arg→Prop
|[],[]=>True
|v::vs,a::ags=>ArV A w v a∧ArVs A w vs ags
|_,_=>False
theorem ArV.le {M N:Mem}(h:M.le N){v:Value}:∀{a:Fo.Arg},ArV M.A M.w v a→ArV N.A N.w v a
|.s _,e=>e
|.o _,⟨vk,vc,e,hv⟩=>⟨vk,vc,e,hv.le h⟩
theorem ArVs.le {M N:Mem}(h:M.le N):∀{vs:List Value} {ags:List Fo.Arg},ArVs M.A M.w vs ags→ArVs N.A N.w vs ags
|[],[],_=>trivial
|_::_,_::_,⟨h1,h2⟩=>⟨h1.le h,ArVs.le h h2⟩
|[],_::_,e=>e.elim
|_::_,[],e=>e.elim
theorem ArVs.len {A:Nat→Prop}{w:World}:∀{vs:List Value} {ags:List Fo.Arg},ArVs A w vs ags→vs.length=ags.length
|[],[],_=>rfl
|_::_,_::_,⟨_,h2⟩=>congrArg (·+ 1) (ArVs.len h2)
|[],_::_,e=>e.elim
|_::_,[],e=>e.elim
theorem ArVs.get {A:Nat→Prop}{w:World}:∀{vs:List Value} {ags:List Fo.Arg} {i:Nat},ArVs A w vs ags→(hi:i < ags.length)→∃v,vs[i]?=some v∧ArV A w v ags[i]
|_::_,_::_,0,⟨h1,_⟩,_=>⟨_,rfl,h1⟩
|_::_,_::_,i+1,⟨_,h2⟩,hi=>by
  obtain⟨v,e,h⟩:=ArVs.get h2 (Nat.lt_of_succ_lt_succ hi);exact⟨v,by simpa using e,h⟩
|_::_,[],_,e,_=>e.elim
|[],_::_,_,e,_=>e.elim
theorem ArVs.append {A:Nat→Prop}{w:World}:∀{vs us:List Value} {ags bs:List Fo.Arg},ArVs A w vs ags→ArVs A w us bs→ArVs A w (vs++us) (ags++bs)
|[],_,[],_,_,h=>h
|_::_,_,_::_,_,⟨h1,h2⟩,h=>⟨h1,ArVs.append h2 h⟩
|[],_,_::_,_,e,_=>e.elim
|_::_,_,[],_,e,_=>e.elim
theorem nAny47:notAgg prog 20=true:=by kernel_rfl
theorem nfStr47:notIface prog 9=true:=by kernel_rfl
theorem nfOb47:notIface prog 48=true:=by kernel_rfl
theorem t_miss47 {w:World}{PK:PKT}{K:VWP}{v:Value}:DoX prog (mTA (.iface 48 v) 20 9 true) w PK K=K (.tuple #[.string ⟨#[]⟩,.bool false]) w:=do_eq (by kernel_rfl)
theorem any_at {M:Mem}{v:Value}{vs:List Value}{n:Nat}(hn:vs.length=n)(hs:SlA M.A M.w v 1 n vs){i:Nat}(hi:i < n) :
  ∃p,(∀W,(mIA 78 v (.int .i64 (i:Int))).run prog W=.ok (.value (.pointer (some p))) W)∧∀W,M.has W→∀u,vs[i]?=some u→(mLoad 20 (.pointer (some p))).run prog W=.ok (.value u) W:=by
 obtain⟨b,off,cap,rfl,_⟩:=sl_open hs.1 (by omega);refine⟨⟨b,off+i,none⟩,fun W=>?_,fun W hk u hu=>?_⟩
 ·have:=run_ia (P:=prog) (T:=78) (b:=b) (off:=off) (cap:=cap) (n:=n) (k:=.i64) (i:=(i:Int)) (w:=W) Tryz.underlying78 (show _=some 1 by kernel_rfl) (by omega) (by omega);rw[Int.toNat_natCast,Nat.mul_one] at this;exact this
 ·obtain⟨b',off',cap',he,hc⟩:=sl_open (hs.now hk) (by omega);cases he;exact run_load_cell nAny47 (hc i _ hu)
theorem ob1_ovM (M:Mem)(k n g:Int)(s:List UInt8):OV M.A M.w (obV (ob1 k n g s) nilS nilS) (ob1 k n g s):=ObAt.ov (o:=ob1 k n g s) ⟨SlA.nil _ _ _ _,SlA.nil _ _ _ _,OVs.nil⟩
theorem Fo.wts_ints:∀l:List Int,Ob.wts (l.map Fo.int)=6*l.length
|[]=>rfl
|n::l=>by
  rw[List.map_cons,Ob.wts,Fo.wts_ints l,List.length_cons];have:(Fo.int n).wt=6:=rfl;omega
theorem m_it02 {w:World}{PK:PKT}{K:VWP}{a:Int}(o:Ob){vk vc:Value}(hk:vk.oneCell'=true)(hc:vc.oneCell'=true):DoX prog (mBuild 89 #[(0,.int .i64 a),(2,obV o vk vc)]) w PK K=K (itV ⟨a,0,o⟩ vk vc) w:=by
 cases vk<;>first|(cases hk;done)|skip
 all_goals cases vc<;>first|(cases hc;done)|exact do_eq (by kernel_rfl)
theorem dict47_ret (ags:List Fo.Arg)(v:Value)(vs:List Value)(M:Mem)(w:World)(hw:Ob.wts (ags.map Fo.Arg.ob)≤1000000000)(hM:M.has w)(hs:SlA M.A M.w v 1 ags.length vs)(ha:ArVs M.A M.w vs ags) :
  RetM prog 45 #[v] M w (fun r N=>∃v',r=errV v' (Vl.dict (ags.map Fo.Arg.ob)).2∧OV N.A N.w v' (Vl.dict (ags.map Fo.Arg.ob)).1):=by
 have hal:ags.length≤1000000000:=by have:=Ob.len_wts (ags.map Fo.Arg.ob);rw[List.length_map] at this;omega
 refine retM_of hM fun K hK=>S_font_dict_ok ?_;unfold S_font_dict;refine o_oba (OwnS.memS hM) fun b2 w1 ho=>?_;rw[sl_len Tryz.underlying78 (hs.now (ho.hasM 1 rfl))];have ho:=OwnS.nilU ho 48 6;refine loop (fun us W=>∃(i:Nat) (u:Value) (cs:List Value) (N:Mem),us=[u,.int .i64 (i:Int)]∧i≤ags.length∧M.le N∧OVs N.A N.w cs ((ags.take i).map Fo.Arg.ob)∧OwnS M.A w W [.urow 48 6 u i cs,obE b2 ob0 nilS nilS,.mem N]) (fun us _=>ags.length - n1 us) ⟨0,_,[],M,rfl,by omega,M.le_refl,OVs.nil,ho⟩ ?_;clear ho;rintro us w2 ⟨i,u,cs,N,rfl,hi,hle,hos,ho⟩ _;simp only[S_font_dict_0,gd,rs];by_cases hlt:(i:Int) < (ags.length:Int)
 case neg=>
  simp only[decide_eq_false hlt,i_f];have:i=ags.length:=by omega
  subst this;rw[List.take_length] at hos;obtain⟨N2,l2,hs2,ho⟩:=OwnS.freezeU ho 1 rfl;refine c_mem ho 1 rfl (vdict_ret (ags.map Fo.Arg.ob) u cs N2 w2 hw (ho.hasM 1 rfl) (by rw[List.length_map];exact hs2) (hos.le l2)) ?_;rintro _ N3 w3 l3 ⟨y,rfl,hy⟩ ho;obtain⟨yk,yc,ycs,rfl,hya⟩:=hy.open;simp only[errV,ex];refine ob_put 0 hya.keys.one hya.kids.one ho rfl fun w4 ho=>?_;exact ret_v2 (rv_cell (ho.agg 0 rfl aggOb)) rv_val (hK _ _ N3 _ 1 ho rfl ((hle.trans l2).trans l3) ⟨_,rfl,hya.ov⟩)
 simp only[decide_eq_true hlt,i_t];have hi':i < ags.length:=by omega
 obtain⟨p,ip,lp⟩:=any_at ha.len hs hi';obtain⟨x,hx,hxa⟩:=ha.get hi';refine joinF (fun us W=>∃(u:Value) (cs:List Value) (N:Mem),us=[u]∧M.le N∧OVs N.A N.w cs ((ags.take (i+1)).map Fo.Arg.ob)∧OwnS M.A w W [.urow 48 6 u (i+1) cs,obE b2 ob0 nilS nilS,.mem N]) (fun J hJ=>?_) ?_
 ·rw[do_eq (ip w2),do_eq (lp w2 (Mem.has_of hle (ho.hasM 2 rfl)) x hx)];have htk:(ags.take (i+1)).map Fo.Arg.ob=(ags.take i).map Fo.Arg.ob++[ags[i].ob]:=by rw[List.take_succ_eq_append_getElem hi',List.map_append];rfl
  rw[htk] at hJ;cases ha':ags[i] with
 |s y=>
   rw[ha'] at hxa hJ;rw[show x=_ from hxa,t_hit nfStr47];simp only[ex,i_t];refine c_below ho (R:=fun v=>v=obV (ob1 5 0 0 y) nilS nilS) (vname_ret y w2) ?_;rintro _ w3 rfl ho;refine o_ob1 (ob1 5 0 0 y) rfl rfl ho fun b8 w4 ho=>?_;refine o_apO 1 ho rfl (ho.sl 0 rfl 6 1 1 rfl) (obC_one _ rfl rfl) (by omega) fun u' w5 ho=>?_;exact hJ _ _ ⟨u',_,N,rfl,hle,OVs.snoc rfl (ob1_ovM N 5 0 0 y) _ _ hos,ho.tail⟩
 |o y=>
   rw[ha'] at hxa hJ;obtain⟨yk,yc,rfl,hyv⟩:=hxa;rw[t_miss47];simp only[ex,i_f];rw[t_hit nfOb47];simp only[ex,i_t];refine o_oba ho fun b7 w3 ho=>?_;refine ob_put 0 hyv.oneK hyv.oneC ho rfl fun w4 ho=>?_;rw[ob_v ho 0 rfl];refine o_ob1 y hyv.oneK hyv.oneC ho fun b8 w5 ho=>?_;refine o_apO 2 ho rfl (ho.sl 0 rfl 6 1 1 rfl) (obC_one _ hyv.oneK hyv.oneC) (by omega) fun u' w6 ho=>?_;exact hJ _ _ ⟨u',_,N,rfl,hle,OVs.snoc rfl (hyv.le hle) _ _ hos,ho.tail.tail⟩
 clear ho;rintro us W ⟨u,cs,N,rfl,hle,hos,ho⟩ _;simp only[S_font_dict_1,gd,rs];rw[wrap64_id (by omega) (by omega)];exact nextX ⟨i+1,u,cs,N,rfl,by omega,hle,hos,ho⟩ (by simp[n1,RowKit.intOf];omega)
theorem ints47_ret (l:List Int)(v:Value)(M:Mem)(w:World)(hl:l.length≤100000000)(hM:M.has w)(hs:SlA M.A M.w v 1 l.length (intsW l)) :
  RetM prog 69 #[v] M w (fun r N=>OV N.A N.w r (Fo.arr (l.map Fo.int))):=by
 refine retM_of hM fun K hK=>S_font_ints_ok ?_;unfold S_font_ints;refine o_oba (OwnS.memS hM) fun b2 w1 ho=>?_;rw[sl_len Tryz.underlying22 (hs.now (ho.hasM 1 rfl))];have ho:=OwnS.nilU ho 48 6;refine loop (fun us W=>∃(i:Nat) (u:Value) (cs:List Value),us=[u,.int .i64 (i:Int)]∧i≤l.length∧OVs M.A M.w cs ((l.take i).map Fo.int)∧OwnS M.A w W [.urow 48 6 u i cs,obE b2 ob0 nilS nilS,.mem M]) (fun us _=>l.length - n1 us) ⟨0,_,[],rfl,by omega,OVs.nil,ho⟩ ?_;clear ho;rintro us w2 ⟨i,u,cs,rfl,hi,hos,ho⟩ _;simp only[S_font_ints_0,gd,rs];by_cases hlt:(i:Int) < (l.length:Int)
 case neg=>
  simp only[decide_eq_false hlt,i_f];have:i=l.length:=by omega
  subst this;rw[List.take_length] at hos;obtain⟨N2,l2,hs2,ho⟩:=OwnS.freezeU ho 1 rfl;refine c_mem ho 1 rfl (varr_ret (l.map Fo.int) u cs N2 w2 (by rw[Fo.wts_ints];omega) (ho.hasM 1 rfl) (by rw[List.length_map];exact hs2) (hos.le l2)) ?_;intro y N3 w3 l3 hy ho;obtain⟨yk,yc,ycs,rfl,hya⟩:=hy.open;refine ob_put 0 hya.keys.one hya.kids.one ho rfl fun w4 ho=>?_;exact ret_v1 (rv_cell (ho.agg 0 rfl aggOb)) (hK _ _ N3 _ 1 ho rfl (l2.trans l3) hya.ov)
 simp only[decide_eq_true hlt,i_t];have hi':i < l.length:=by omega
 obtain⟨p,ip,lp⟩:=i64_at47 hs hi';rw[do_eq (ip w2),do_eq (lp w2 (ho.hasM 2 rfl))];refine c_below ho (R:=fun v=>v=obV (ob1 2 l[i] 0 []) nilS nilS) (vint_ret l[i] w2) ?_;rintro _ w3 rfl ho;refine o_ob1 (ob1 2 l[i] 0 []) rfl rfl ho fun b8 w4 ho=>?_;refine o_apO 1 ho rfl (ho.sl 0 rfl 6 1 1 rfl) (obC_one _ rfl rfl) (by omega) fun u' w5 ho=>?_
 try simp only[rs]
 rw[wrap64_id (by omega) (by omega)];refine nextX ⟨i+1,u',_,rfl,by omega,?_,ho.tail⟩ (by simp[n1,RowKit.intOf];omega);rw[List.take_succ_eq_append_getElem hi',List.map_append];exact OVs.snoc rfl (ob1_ovM M 2 l[i] 0 []) _ _ hos
namespace Dk
def next (d:Dc):Int:=match d.items.getLast? with
|none=>1
|some i=>i.num+1
end Dk
theorem dfree_ret (d:Dc)(dv:Value)(M:Mem)(w:World)(hd:Dk.Ok d)(hc:Dk.check d=0)(hn:Dk.next d≤8191)(h0:∀i∈d.items,-1000000≤i.num)(hM:M.has w)(hdv:DV M.A M.w dv d) :
  RetM prog 105 #[dv] M w (fun r _=>r=.tuple #[.int .i64 (Dk.next d),.int .i64 0]):=by
 have hdv0:=hdv;obtain⟨vi,tk,tc,cs,rfl,hda⟩:=hdv;refine retM_of hM fun K hK=>S_docs_Free_ok ?_;unfold S_docs_Free;refine o_dcb d hda.items.one hda.trailer.oneK hda.trailer.oneC (OwnS.memS hM) fun b1 w1 ho=>?_;rw[dc_v ho 0 rfl];refine c_mem ho 1 rfl (dcheck_ret d _ M w1 hd (ho.hasM 1 rfl) hdv0) ?_;rintro _ N w2 hle rfl ho;simp only[hc,n_err,show decide ((0:Int)≠0)=false from rfl,i_f];refine joinF (fun us W=>us=[.int .i64 (Dk.next d)]∧W=w2) (fun J hJ=>?_) ?_
 ·rw[fa_d0,dc_items ho 0 rfl,sl_len Tryz.underlying45 ((hda.le hle).items.now (ho.hasM 1 rfl))]
  try simp only[rs]
  by_cases hl:0 < (d.items.length:Int)
  ·simp only[decide_eq_true hl,i_t];have hll:d.items.length - 1 < d.items.length:=by omega
   have hil:=hd.1;rw[fa_d0,dc_items ho 0 rfl]
   try simp only[rs]
   rw[wrap64_id (by omega) (by omega),show (d.items.length:Int) - 1=((d.items.length - 1:Nat):Int) by omega];obtain⟨ik,ic,b,off,_,hr⟩:=item_at (hda.le hle).items (hda.le hle).all hll;obtain⟨r1,r2⟩:=hr w2 (ho.hasM 1 rfl);have r2:=r2 0 _ rfl;rw[Nat.add_zero] at r2;rw[do_eq r1,fa_i0,l_cell nInt5 r2];have hlast:Dk.next d=d.items[d.items.length - 1].num+1:=by
    unfold Dk.next
    rw[List.getLast?_eq_getElem?,List.getElem?_eq_getElem hll]
   have hm:=h0 _ (List.getElem_mem hll)
   try simp only[rs]
   rw[wrap64_id (by omega) (by omega),←hlast];exact hJ _ _ ⟨rfl,rfl⟩
  ·simp only[decide_eq_false hl,i_f];have:d.items=[]:=List.eq_nil_of_length_eq_zero (by omega);exact hJ _ _ ⟨by unfold Dk.next;rw[this];rfl,rfl⟩
 rintro us W ⟨rfl,rfl⟩ _;simp only[S_docs_Free_0,gd,rs];simp only[decide_eq_false (show ¬8191 < Dk.next d by omega),i_f];exact hK _ _ N _ 1 ho rfl hle rfl
theorem dadd_ret (d:Dc)(o:Ob)(dv v:Value)(M:Mem)(w:World)(hd:Dk.Ok d)(hl:d.items.length < 10000000000)(hw:o.wt≤1000000000)(hc:Dk.check d=0)(hn:Dk.next d≤8191)(h0:∀i∈d.items,-1000000≤i.num)(hp:(Dk.put d ⟨Dk.next d,0,o⟩).2=0)(hM:M.has w)(hdv:DV M.A M.w dv d)(hv:OV M.A M.w v o) :
  RetM prog 76 #[dv,v] M w (fun r N=>∃v',r=.tuple #[v',.int .i64 (Dk.next d),.int .i64 0]∧DV N.A N.w v' (Dk.put d ⟨Dk.next d,0,o⟩).1):=by
 have hdv0:=hdv;obtain⟨vi,tk,tc,cs,rfl,hda⟩:=hdv;obtain⟨vk,vc,ocs,rfl,ha⟩:=hv.open;refine retM_of hM fun K hK=>S_docs_Add_ok ?_;unfold S_docs_Add;refine o_dcb d hda.items.one hda.trailer.oneK hda.trailer.oneC (OwnS.memS hM) fun b2 w1 ho=>?_;refine o_obb o ha.keys.one ha.kids.one ho fun b3 w2 ho=>?_;refine o_dca ho fun b4 w3 ho=>?_;have ho:OwnS M.A w w3 [dcE b4 Dk.dc0 nilS nilS nilS,obE b3 o vk vc,dcE b2 d vi tk tc,.mem M]:=ho;rw[dc_v ho 2 rfl];refine c_mem ho 3 rfl (dfree_ret d _ M w3 hd hc hn h0 (ho.hasM 3 rfl) hdv0) ?_;rintro _ N w4 hle rfl ho;simp only[ex,n_err,show decide ((0:Int)≠0)=false from rfl,i_f];rw[dc_v ho 2 rfl,ob_v ho 1 rfl,m_it02 o ha.keys.one ha.kids.one];refine c_mem ho 3 rfl (dput_ret d ⟨Dk.next d,0,o⟩ _ _ N w4 hd hl hw (ho.hasM 3 rfl) ⟨vi,tk,tc,cs,rfl,hda.le hle⟩ ⟨vk,vc,rfl,hv.le hle⟩) ?_;rintro _ N2 w5 l2 ⟨y,rfl,hy⟩ ho;rw[hp];generalize (Dk.put d ⟨Dk.next d,0,o⟩).1=d2 at *;obtain⟨yi,yk,yc,ycs,rfl,hya⟩:=hy;simp only[errV,ex];refine dc_put 2 (d':=d2) hya.items.one hya.trailer.oneK hya.trailer.oneC ho rfl fun w6 ho=>?_;simp only[n_err,show decide ((0:Int)≠0)=false from rfl,i_f];rw[dc_v ho 2 rfl];refine dc_put 0 (d':=d2) hya.items.one hya.trailer.oneK hya.trailer.oneC ho rfl fun w7 ho=>?_;exact ret_v3 (rv_cell (ho.agg 0 rfl aggDc)) rv_val rv_val (hK _ _ N2 _ 3 ho rfl (hle.trans l2) ⟨_,rfl,yi,yk,yc,ycs,rfl,hya⟩)
end
section
open Eng Go.RowKit
namespace Fo
def descA (f:Ft):List Arg:=[.s kType,.s kDesc,.s kFName,.s f.name,.s kMiss,.o (int f.missing)]
def headA (f:Ft):List Arg:=[.s kType,.s kFont,.s kSub,.s kT1,.s kBase,.s f.name]
def firstA (f:Ft):List Arg:=if f.first < 256 then [.s kFirst,.o (int f.first)] else []
def widA (f:Ft):List Arg:=if f.widths=[] then [] else [.s kWid,.o (arr (f.widths.map int))]
def missA (f:Ft):List Arg:=if 0 < f.missing then [.s kDesc,.o (mkD (descP f))] else []
def narrowA (f:Ft):List Arg:=headA f++firstA f++widA f++missA f
theorem desc_ob (f:Ft):(descA f).map Arg.ob=flatP (descP f):=rfl
theorem narrow_ob {f:Ft}(h:f.names=[]):(narrowA f).map Arg.ob=flatP (narrowP f):=by
 unfold narrowA narrowP firstA widA missA headA;by_cases h1:f.first < 256<;>by_cases h2:f.widths=[]<;>by_cases h3:0 < f.missing<;>simp[h,h1,h2,h3,flatP,Arg.ob]
end Fo
theorem run_ifS (x:Value)(W:World):(mIface 9 x).run prog W=.ok (.value (.iface 9 x)) W:=by kernel_rfl
theorem run_ifO (x:Value)(W:World):(mIface 48 x).run prog W=.ok (.value (.iface 48 x)) W:=by kernel_rfl
theorem elAny:elB prog 20 1 16=true:=by kernel_rfl
abbrev sV (x:List UInt8):Value:=.iface 9 (.string ⟨x.toArray⟩)
abbrev oV (x:Value):Value:=.iface 48 x
abbrev anE (u:Value)(vs:List Value):Ent:=.urow 20 1 u vs.length vs
section
variable {w:World}{PK PK2:PKT}{K:VWP}{S:Nat→Prop}{w0:World}{L:List Ent}
theorem o_any2 (x y:Value)(ho:OwnS S w0 w L)(k:∀b w',OwnS S w0 w' (.cells b [.iface 9 x,.iface 48 y] 20::L)→K (.slice (some ⟨b,0,none⟩) 2 2) w') :
  DoX prog (mBuildS 78 2 #[(0,.iface 9 x),(1,.iface 48 y)]) w PK K:=
 o_new (fun b=>.slice (some ⟨b,0,none⟩) 2 2) [.iface 9 x,.iface 48 y] 20 (fun _=>by kernel_rfl) ho k
theorem o_any6 (a b c d e g:Value)(T:TypeId)(ho:OwnS S w0 w L)(k:∀q w',OwnS S w0 w' (.cells q [.iface 9 a,.iface 9 b,.iface 9 c,.iface 9 d,.iface 9 e,.iface T g] 20::L)→K (.slice (some ⟨q,0,none⟩) 6 6) w') :
  DoX prog (mBuildS 78 6 #[(0,.iface 9 a),(1,.iface 9 b),(2,.iface 9 c),(3,.iface 9 d),(4,.iface 9 e),(5,.iface T g)]) w PK K:=
 o_new (fun b=>.slice (some ⟨b,0,none⟩) 6 6) [.iface 9 a,.iface 9 b,.iface 9 c,.iface 9 d,.iface 9 e,.iface T g] 20 (fun _=>by kernel_rfl) ho k
theorem o_apAny (i:Nat){u x y:Value}{vs:List Value}{cb:Array Bool}(ho:OwnS S w0 w L)(hi:L[i]?=some (anE u vs))(hl:vs.length≤1000000000)(k:∀u' w',OwnS S w0 w' (L.set i (anE u' (vs++[.iface 9 x,.iface 48 y])))→K u' w') :
  DoX prog (mBuildS 78 2 #[(0,.iface 9 x),(1,.iface 48 y)]) w PK fun t w=>DoX prog (mB .append #[78,78] 78 cb #[u,t]) w PK2 K:=by
 refine o_any2 x y ho fun b w1 ho=>?_;refine o_appendU (i+1) Tryz.underlying78 elAny (by decide) ho (by rw[List.getElem?_cons_succ];exact hi) (ho.sl 0 rfl 1 2 2 rfl) (by simp[Value.oneCell']) (by omega) (by omega) fun u' w2 ho=>k u' w2 ?_;have e:anE u' (vs++[.iface 9 x,.iface 48 y])=.urow 20 1 u' (vs.length+2) (vs++[.iface 9 x,.iface 48 y]):=by rw[anE,List.length_append];rfl
 rw[e];exact ho.tail
end
theorem int_ovM (M:Mem)(n:Int):OV M.A M.w (obV (Fo.int n) nilS nilS) (Fo.int n):=ob1_ovM M 2 n 0 []
theorem desc_args (M:Mem)(f:Ft):ArVs M.A M.w [sV Fo.kType,sV Fo.kDesc,sV Fo.kFName,sV f.name,sV Fo.kMiss,oV (obV (Fo.int f.missing) nilS nilS)] (Fo.descA f):=
 ⟨rfl,rfl,rfl,rfl,rfl,⟨_,_,rfl,int_ovM M f.missing⟩,trivial⟩
theorem head_args (M:Mem)(f:Ft):ArVs M.A M.w [sV Fo.kType,sV Fo.kFont,sV Fo.kSub,sV Fo.kT1,sV Fo.kBase,sV f.name] (Fo.headA f):=⟨rfl,rfl,rfl,rfl,rfl,rfl,trivial⟩
theorem ArVs.two {M:Mem}{vs:List Value}{ags:List Fo.Arg}{k:List UInt8}{o:Ob}{vk vc:Value}(h:ArVs M.A M.w vs ags)(ho:OV M.A M.w (obV o vk vc) o):ArVs M.A M.w (vs++[sV k,oV (obV o vk vc)]) (ags++[.s k,.o o]):=
 h.append ⟨rfl,⟨vk,vc,rfl,ho⟩,trivial⟩
theorem narrowly47_ret (f:Ft)(wv nv mv:Value)(M:Mem)(w:World)(hg:Fo.Good f)(hok:FtOk f)(hn:f.names=[])(hM:M.has w)(h:FtAt M f wv nv mv) :
  RetM prog 40 #[ftV f wv nv mv] M w (fun r N=>∃vs,SlA N.A N.w r 1 (Fo.narrowA f).length vs∧ArVs N.A N.w vs (Fo.narrowA f)):=by
 refine retM_of hM fun K hK=>S_font_narrowly_ok ?_;unfold S_font_narrowly;refine o_ftb f h (OwnS.memS hM) fun b1 w1 ho=>?_;simp only[m_iface nfStr47];rw[fa_f0,ft_name ho 0 rfl]
 try simp only[m_iface nfStr47]
 refine o_any6 _ _ _ _ _ _ _ ho fun b2 w2 ho=>?_;have ho:=ho.toU 1 6 6 rfl (by omega) (by omega);have ho:OwnS M.A w w2 [anE (.slice (some ⟨b2,0,none⟩) 6 6) [sV Fo.kType,sV Fo.kFont,sV Fo.kSub,sV Fo.kT1,sV Fo.kBase,sV f.name],ftE b1 f wv nv mv,.mem M]:=ho;refine joinF (fun us W=>∃(u:Value) (vs:List Value),us=[u]∧ArVs M.A M.w vs (Fo.headA f++Fo.firstA f)∧OwnS M.A w W [anE u vs,ftE b1 f wv nv mv,.mem M]) (fun J hJ=>?_) ?_
 ·have hd:=head_args M f;rw[fa_f2,ft_first ho 1 rfl]
  try simp only[rs]
  by_cases h1:f.first < 256
  ·simp only[decide_eq_true h1,i_t]
   try rw[m_iface nfStr47]
   rw[fa_f2,ft_first ho 1 rfl];refine c_below ho (R:=fun v=>v=obV (Fo.int f.first) nilS nilS) (vint_ret f.first w2) ?_;rintro _ w3 rfl ho;rw[m_iface nfOb47];refine o_apAny 0 ho rfl (show 6≤1000000000 by decide) fun u w4 ho=>?_;refine hJ _ _ ⟨u,_,rfl,?_,ho⟩;rw[Fo.firstA,if_pos h1];exact hd.two (int_ovM M f.first)
  ·simp only[decide_eq_false h1,i_f];refine hJ _ _ ⟨_,_,rfl,?_,ho⟩;rw[Fo.firstA,if_neg h1,List.append_nil];exact hd
 clear ho;rintro us w3 ⟨u,vs,rfl,hvs,ho⟩ _;simp only[S_font_narrowly_0,gd];have hvl:vs.length≤8:=by
  rw[hvs.len];unfold Fo.firstA;split
  ·exact (show 8≤8 by decide)
  ·exact (show 6≤8 by decide)
 have hal:(Fo.headA f++Fo.firstA f).length≤8:=by rw[←hvs.len];exact hvl
 generalize he1:Fo.headA f++Fo.firstA f=a1 at *;refine joinF (fun us W=>∃(u:Value) (vs:List Value) (N:Mem),us=[u]∧M.le N∧ArVs N.A N.w vs (a1++Fo.widA f)∧OwnS M.A w W [anE u vs,ftE b1 f wv nv mv,.mem N]) (fun J hJ=>?_) ?_
 ·rw[fa_f3,ft_ws ho 1 rfl,sl_len Tryz.underlying22 (h.ws.now (ho.hasM 2 rfl))]
  try simp only[rs]
  by_cases h1:0 < (f.widths.length:Int)
  ·simp only[decide_eq_true h1,i_t]
   try rw[m_iface nfStr47]
   rw[fa_f3,ft_ws ho 1 rfl];refine c_mem ho 2 rfl (ints47_ret f.widths wv M w3 (by have:=hok.wl;omega) (ho.hasM 2 rfl) h.ws) ?_;intro y N w4 hle hy ho;obtain⟨yk,yc,ycs,rfl,hya⟩:=hy.open;rw[m_iface nfOb47];refine o_apAny 0 ho rfl (by omega) fun u w5 ho=>?_;refine hJ _ _ ⟨u,_,N,rfl,hle,?_,ho⟩;rw[Fo.widA,if_neg (fun e=>by rw[e] at h1;exact absurd h1 (by decide))];exact (hvs.le hle).two hya.ov
  ·simp only[decide_eq_false h1,i_f];refine hJ _ _ ⟨_,_,M,rfl,M.le_refl,?_,ho⟩;rw[Fo.widA,if_pos (List.eq_nil_of_length_eq_zero (by omega)),List.append_nil];exact hvs
 clear ho hvs hvl;rintro us w4 ⟨u,vs,N,rfl,hle,hvs,ho⟩ _;simp only[S_font_narrowly_1,gd];have hvl:vs.length≤10:=by
  rw[hvs.len,List.length_append];unfold Fo.widA;split
  ·show a1.length+0≤10;omega
  ·show a1.length+2≤10;omega
 have hal2:(a1++Fo.widA f).length≤10:=by rw[←hvs.len];exact hvl
 generalize he2:a1++Fo.widA f=a2 at *;refine joinF (fun us W=>∃(u:Value) (vs:List Value) (N':Mem),us=[u]∧M.le N'∧ArVs N'.A N'.w vs (a2++Fo.missA f)∧OwnS M.A w W [anE u vs,ftE b1 f wv nv mv,.mem N']) (fun J hJ=>?_) ?_
 ·rw[fa_f4,ft_miss ho 1 rfl]
  try simp only[rs]
  by_cases h1:0 < f.missing
  case neg=>
   simp only[decide_eq_false h1,i_f];refine hJ _ _ ⟨_,_,N,rfl,hle,?_,ho⟩;rw[Fo.missA,if_neg h1,List.append_nil];exact hvs
  simp only[decide_eq_true h1,i_t];have hD:=Fo.mkD_dict (Fo.desc_ok hg);have hwt:Ob.wts ((Fo.descA f).map Fo.Arg.ob)≤1000000000:=by
   have:=hg.name1;simp[Fo.descA,Fo.Arg.ob,Fo.nm,Fo.int,Ob.wts,Ob.wt,Pl.tot,Fo.kType,Fo.kDesc,Fo.kFName,Fo.kMiss];omega
  have ho:=ho.drew;have fin:∀{W:World} {N2:Mem} {b4:Nat} {yk yc:Value},M.le N2→N.le N2→OV N2.A N2.w (obV (Fo.mkD (Fo.descP f)) yk yc) (Fo.mkD (Fo.descP f))→OwnS M.A w W [obE b4 (Fo.mkD (Fo.descP f)) yk yc,anE u vs,ftE b1 f wv nv mv,.mem N2]→S_font_narrowly_2 u (.pointer (some ⟨b4,0,none⟩)) (.int .i64 0) W J K:=by
   intro W N2 b4 yk yc hle2 l2 hy ho;unfold S_font_narrowly_2;refine c_need47 rfl ?_;rw[m_iface nfStr47,ob_v ho 0 rfl,m_iface nfOb47];refine o_apAny 1 ho rfl (by omega) fun u' w5 ho=>?_;refine hJ _ _ ⟨u',_,N2,rfl,hle2,?_,ho.tail⟩;rw[Fo.missA,if_pos h1];exact (hvs.le l2).two hy
  have dict:∀{W:World} {L:List Ent} {PK':PKT} {K':VWP} {v:Value} (j:Nat) {N1:Mem},OwnS M.A w W L→L[j]?=some (.mem N1)→SlA N1.A N1.w v 1 6 [sV Fo.kType,sV Fo.kDesc,sV Fo.kFName,sV f.name,sV Fo.kMiss,oV (obV (Fo.int f.missing) nilS nilS)] →
    (∀N2 yk yc W',N1.le N2→OV N2.A N2.w (obV (Fo.mkD (Fo.descP f)) yk yc) (Fo.mkD (Fo.descP f))→OwnS M.A w W' (L.set j (.mem N2))→K' (.tuple #[obV (Fo.mkD (Fo.descP f)) yk yc,.int .i64 0]) W')→CallX prog 45 #[v] W PK' K':=by
   intro W L PK' K' v j N1 ho hj hs k;refine c_mem ho j hj (dict47_ret (Fo.descA f) v _ N1 W hwt (ho.hasM j hj) hs (desc_args N1 f)) ?_;rintro _ N2 W' l2 ⟨y,rfl,hy⟩ ho;rw[Fo.desc_ob,hD] at hy ⊢;obtain⟨yk,yc,ycs,rfl,hya⟩:=hy.open;exact k N2 yk yc W' l2 hya.ov ho
  have st:∀{W:World} {N2:Mem} {b4:Nat} {yk yc:Value} {PK':PKT},M.le N2→N.le N2→OV N2.A N2.w (obV (Fo.mkD (Fo.descP f)) yk yc) (Fo.mkD (Fo.descP f))→OwnS M.A w W [obE b4 ob0 nilS nilS,anE u vs,ftE b1 f wv nv mv,.mem N2] →
    DoX prog (mStore 48 (.pointer (some ⟨b4,0,none⟩)) (obV (Fo.mkD (Fo.descP f)) yk yc)) W PK' fun _ w=>S_font_narrowly_2 u (.pointer (some ⟨b4,0,none⟩)) (.int .i64 0) w J K:=by
   intro W N2 b4 yk yc PK' hle2 l2 hy ho;refine ob_put 0 hy.oneK hy.oneC ho rfl fun w8 ho=>?_;exact fin hle2 l2 hy ho
  refine⟨fun W=>(ftE b1 f wv nv mv).is W,ho.at_ 1 rfl,?_⟩;refine hd_pure _ (fun _=>run_ifS _ _) (hd_pure _ (fun _=>run_ifS _ _) (hd_pure _ (fun _=>run_ifS _ _) ?_));refine hd_pure _ (fun _=>run_fa (o:=0) (by kernel_rfl)) (hd_do _ (fun W h=>run_load_cell nStr5 (cells_cell (T:=26) h (i:=0) rfl)) ?_);refine hd_pure _ (fun _=>run_ifS _ _) (hd_pure _ (fun _=>run_ifS _ _) ?_);refine hd_pure _ (fun _=>run_fa (o:=4) (by kernel_rfl)) (hd_do _ (fun W h=>run_load_cell nI65 (cells_cell (T:=26) h (i:=4) rfl)) ?_);refine⟨?_,?_⟩
  ·refine c_below ho (R:=fun v=>v=obV (Fo.int f.missing) nilS nilS) (vint_ret f.missing _) ?_;rintro _ w5 rfl ho;refine⟨ho.at_ 1 rfl,hd_pure _ (fun _=>run_ifO _ _) ⟨?_,?_⟩⟩
   ·refine o_any6 _ _ _ _ _ _ _ ho fun bq w6 ho=>?_;obtain⟨N1,l1,hs1,ho⟩:=OwnS.freezeU (ho.toU 1 6 6 rfl (by omega) (by omega)) 2 rfl;refine⟨ho.at_ 1 rfl,?_,?_⟩
    ·refine dict 2 ho rfl hs1 fun N2 yk yc W' l2 hy ho=>⟨ho.at_ 1 rfl,hd_pure _ (fun _=>rfl) (hd_pure _ (fun _=>rfl) ?_)⟩;refine o_oba ho fun b4 w7 ho=>⟨ho.at_ 2 rfl,?_⟩;exact st ((hle.trans l1).trans l2) (l1.trans l2) hy ho
    ·refine o_oba ho fun b4 w7 ho=>⟨ho.at_ 2 rfl,?_⟩;refine dict 3 ho rfl hs1 fun N2 yk yc W' l2 hy ho=>⟨ho.at_ 2 rfl,hd_pure _ (fun _=>rfl) (hd_pure _ (fun _=>rfl) ?_)⟩;exact st ((hle.trans l1).trans l2) (l1.trans l2) hy ho
   ·refine o_oba ho fun b4 w6 ho=>⟨ho.at_ 2 rfl,?_⟩;refine o_any6 _ _ _ _ _ _ _ ho fun bq w7 ho=>?_;obtain⟨N1,l1,hs1,ho⟩:=OwnS.freezeU (ho.toU 1 6 6 rfl (by omega) (by omega)) 3 rfl;refine⟨ho.at_ 2 rfl,?_⟩;refine dict 3 ho rfl hs1 fun N2 yk yc W' l2 hy ho=>⟨ho.at_ 2 rfl,hd_pure _ (fun _=>rfl) (hd_pure _ (fun _=>rfl) ?_)⟩;exact st ((hle.trans l1).trans l2) (l1.trans l2) hy ho
  ·refine o_oba ho fun b4 w5 ho=>⟨ho.at_ 2 rfl,?_⟩;refine c_below ho (R:=fun v=>v=obV (Fo.int f.missing) nilS nilS) (vint_ret f.missing _) ?_;rintro _ w6 rfl ho;refine⟨ho.at_ 2 rfl,hd_pure _ (fun _=>run_ifO _ _) ?_⟩;refine o_any6 _ _ _ _ _ _ _ ho fun bq w7 ho=>?_;obtain⟨N1,l1,hs1,ho⟩:=OwnS.freezeU (ho.toU 1 6 6 rfl (by omega) (by omega)) 3 rfl;refine⟨ho.at_ 2 rfl,?_⟩;refine dict 3 ho rfl hs1 fun N2 yk yc W' l2 hy ho=>⟨ho.at_ 2 rfl,hd_pure _ (fun _=>rfl) (hd_pure _ (fun _=>rfl) ?_)⟩;exact st ((hle.trans l1).trans l2) (l1.trans l2) hy ho
 clear ho hvs hvl;rintro us w5 ⟨u,vs,N',rfl,hle',hvs,ho⟩ _;simp only[S_font_narrowly_3,gd];refine join fun J hJ=>?_;have hns:=(h.le hle').ns;rw[hn] at hns;rw[fa_f5,ft_nms ho 1 rfl,sl_len Tryz.underlying23 (hns.now (ho.hasM 2 rfl))]
 try simp only[rs]
 rw[decide_eq_false (show ¬(0:Int) < ((List.length ([]:List (List UInt8)):Nat):Int) by decide)]
 try simp only[i_f]
 refine hJ _ _ fun _=>?_;unfold S_font_narrowly_5;obtain⟨N2,l2,hs2,ho⟩:=OwnS.freezeU ho 1 rfl;have hna:Fo.narrowA f=a2++Fo.missA f:=by rw[←he2,←he1];rfl
 refine hK _ _ N2 _ 1 ho rfl (hle'.trans l2) ⟨vs,?_,?_⟩
 ·rw[hna,←hvs.len];exact hs2
 ·rw[hna];exact hvs.le l2
end
section
open Eng Go.RowKit
theorem r_not {P:Program}{w:World}{b:Bool}:(mUn .not (.bool b)).run P w=.ok (.value (.bool (!b))) w:=mv_run (by simp[Op.unary])
theorem r_faf {w:World}{b off:Nat}(i o:Nat)(h:fOff prog 26 i=some o):(mFA 26 (.pointer (some ⟨b,off,none⟩)) i).run prog w=.ok (.value (.pointer (some ⟨b,off+o,none⟩))) w:=run_fa h
theorem fo_f (i:Fin 7):fOff prog 26 i.val=some i.val:=by
 revert i;decide +kernel
namespace Fo
theorem may_split (f:Ft):may f=(named f.name 1&&decide (0≤f.first)&&decide (f.widths.length≤4096)&&decide (f.first+f.widths.length≤room f.wide)&&wid f.missing&&(f.widths.all wid&&((decide (f.names=[])||(!f.wide&&decide (f.names.length=256)))&&f.names.all fun s=>named s 0))):=by
 unfold may;simp only[Bool.and_assoc]
theorem all_drop {α:Type}(p:α→Bool){l:List α}{i:Nat}(hi:i < l.length):(l.drop i).all p=(p l[i]&&(l.drop (i+1)).all p):=by
 rw[List.drop_eq_getElem_cons hi,List.all_cons]
end Fo
theorem may47_ret (f:Ft)(wv nv mv:Value)(M:Mem)(w:World)(hok:FtOk f)(hM:M.has w)(h:FtAt M f wv nv mv):RetM prog 30 #[ftV f wv nv mv] M w (fun r _=>r=.bool (Fo.may f)):=by
 have hwl:=hok.wl;have hnl:=hok.nl;have hfi:=hok.first
 refine retM_of hM fun K hK=>S_font_may_ok ?_;rw[Fo.may_split] at hK;unfold S_font_may;refine o_ftb f h (OwnS.memS hM) fun b w1 ho=>?_;rw[fa_f3,ft_ws ho 0 rfl,sl_len Tryz.underlying22 (h.ws.now (ho.hasM 1 rfl))];have rest:∀W,OwnS M.A w W [ftE b f wv nv mv,.mem M]→(Fo.named f.name 1&&decide (0≤f.first)&&decide (f.widths.length≤4096)&&decide (f.first+f.widths.length≤Fo.room f.wide)&&Fo.wid f.missing)=true →
   DoX prog (mFA 26 (.pointer (some ⟨b,0,none⟩)) 3) W (pk K) (fun t40 w=>DoX prog (mLoad 22 t40) w (pk K) fun t41 w=>DoX prog (mB .len #[22] 3 #[false] #[t41]) w (pk K) fun t42 w=>
   LoopX [(.int .i64 0)] w (fun vs2 w N2=>∀_:Sg,S_font_may_0 (.pointer (some ⟨b,0,none⟩)) t41 t42 (vs2.getD 0 undef) w N2 K)):=by
  intro W ho hhead;rw[hhead,Bool.true_and] at hK;rw[fa_f3,ft_ws ho 0 rfl,sl_len Tryz.underlying22 (h.ws.now (ho.hasM 1 rfl))];refine loop (fun vs W=>∃i:Nat,vs=[.int .i64 (i:Int)]∧i≤f.widths.length∧f.widths.all Fo.wid=(f.widths.drop i).all Fo.wid∧OwnS M.A w W [ftE b f wv nv mv,.mem M]) (fun vs _=>f.widths.length - n0 vs) ⟨0,rfl,by omega,by simp,ho⟩ ?_;clear ho;rintro vs w2 ⟨i,rfl,hi,hal,ho⟩ _;simp only[S_font_may_0,gd,rs];by_cases hlt:(i:Int) < (f.widths.length:Int)
  ·simp only[decide_eq_true hlt,i_t];have hi':i < f.widths.length:=by omega
   obtain⟨g,off,cap,hwv,hc⟩:=sl_open (h.ws.now (ho.hasM 1 rfl)) (by omega);subst hwv;refine do_eq (run_ia Tryz.underlying22 (show _=some 1 by kernel_rfl) (by omega) (by omega)) |>.mpr ?_;rw[Int.toNat_natCast,Nat.mul_one,l_cell nI65 (hc i _ (intsW_get hi'))];refine c_eq (bounded47_ret f.widths[i] w2) ?_;rw[Fo.all_drop _ hi'] at hal;cases hwd:Fo.wid f.widths[i] with
  |false=>
    rw[hwd,Bool.false_and] at hal;rw[hal,Bool.false_and] at hK;simp only[rs,Bool.not_false,i_t];exact hK _ _ M _ 1 ho rfl M.le_refl rfl
  |true=>
    rw[hwd,Bool.true_and] at hal;simp only[rs,Bool.not_true,i_f];rw[wrap64_id (by omega) (by omega)];exact nextX ⟨i+1,rfl,by omega,hal,ho⟩ (by simp[n0,RowKit.intOf];omega)
  simp only[decide_eq_false hlt,i_f];rw[List.drop_of_length_le (by omega)] at hal;rw[hal,List.all_nil,Bool.true_and] at hK;rw[fa_f5,ft_nms ho 0 rfl,sl_len Tryz.underlying23 (h.ns.now (ho.hasM 1 rfl))]
  try simp only[rs]
  have loop3:∀{W:World},OwnS M.A w W [ftE b f wv nv mv,.mem M]→(decide (f.names=[])||(!f.wide&&decide (f.names.length=256)))=true→DoX prog (mFA 26 (.pointer (some ⟨b,0,none⟩)) 5) W (pk K) (fun t65 w=>
    DoX prog (mLoad 23 t65) w (pk K) fun t66 w=>DoX prog (mB .len #[23] 3 #[false] #[t66]) w (pk K) fun t67 w=>
    LoopX [(.int .i64 0)] w (fun vs3 w N3=>∀_:Sg,S_font_may_1 t66 t67 (vs3.getD 0 undef) w N3 K)):=by
   intro W ho hnm;rw[hnm,Bool.true_and] at hK;rw[fa_f5,ft_nms ho 0 rfl,sl_len Tryz.underlying23 (h.ns.now (ho.hasM 1 rfl))];refine loop (fun vs W=>∃i:Nat,vs=[.int .i64 (i:Int)]∧i≤f.names.length∧(f.names.all fun s=>Fo.named s 0)=(f.names.drop i).all (fun s=>Fo.named s 0)∧OwnS M.A w W [ftE b f wv nv mv,.mem M]) (fun vs _=>f.names.length - n0 vs) ⟨0,rfl,by omega,by simp,ho⟩ ?_;clear ho;rintro vs w2 ⟨i,rfl,hi,hal,ho⟩ _;simp only[S_font_may_1,gd,rs];by_cases hlt:(i:Int) < (f.names.length:Int)
   ·simp only[decide_eq_true hlt,i_t];have hi':i < f.names.length:=by omega
    obtain⟨g,off,cap,hnv,hc⟩:=sl_open (h.ns.now (ho.hasM 1 rfl)) (by omega);subst hnv;refine do_eq (run_ia Tryz.underlying23 (show _=some 1 by kernel_rfl) (by omega) (by omega)) |>.mpr ?_;rw[Int.toNat_natCast,Nat.mul_one,l_cell nStr5 (hc i _ (strsV_get hi'))];refine c_eq (named47_ret f.names[i] 0 w2 (by decide)) ?_;rw[Fo.all_drop _ hi'] at hal;cases hwd:Fo.named f.names[i] 0 with
   |false=>
     rw[hwd,Bool.false_and] at hal;rw[hal] at hK;simp only[rs,Bool.not_false,i_t];exact hK _ _ M _ 1 ho rfl M.le_refl rfl
   |true=>
     rw[hwd,Bool.true_and] at hal;simp only[rs,Bool.not_true,i_f];rw[wrap64_id (by omega) (by omega)];exact nextX ⟨i+1,rfl,by omega,hal,ho⟩ (by simp[n0,RowKit.intOf];omega)
   simp only[decide_eq_false hlt,i_f];rw[List.drop_of_length_le (by omega)] at hal;rw[hal,List.all_nil] at hK;exact hK _ _ M _ 1 ho rfl M.le_refl rfl
  by_cases hn0:(f.names.length:Int)=0
  ·have hnn:f.names=[]:=List.eq_nil_of_length_eq_zero (by omega);simp only[decide_eq_false (show ¬(f.names.length:Int)≠0 by omega),rs,g_un,i_f];exact loop3 ho (by rw[hnn];rfl)
  have hnn:f.names≠[]:=fun h=>hn0 (by rw[h];rfl);simp only[decide_eq_true (show (f.names.length:Int)≠0 by omega),rs];rw[fa_f1,ft_wide ho 0 rfl]
  try simp only[rs]
  cases hwide:f.wide with
 |true=>
   rw[decide_eq_false hnn,hwide] at hK;simp only[rs,g_un,i_t];exact hK _ _ M _ 1 ho rfl M.le_refl rfl
 |false=>
   try simp only[rs]
   rw[fa_f5,ft_nms ho 0 rfl]
   try simp only[rs]
   rw[sl_len Tryz.underlying23 (h.ns.now (ho.hasM 1 rfl))]
   try simp only[rs]
   by_cases h256:(f.names.length:Int)=256
   ·simp only[decide_eq_false (show ¬(f.names.length:Int)≠256 by omega),rs,i_f];exact loop3 ho (by rw[hwide,decide_eq_true (show f.names.length=256 by omega)];simp)
   ·rw[decide_eq_false hnn,decide_eq_false (show ¬f.names.length=256 by omega)] at hK;simp only[decide_eq_true (show (f.names.length:Int)≠256 by omega),rs,i_t];exact hK _ _ M _ 1 ho rfl M.le_refl (by simp)
 have no:∀W,OwnS M.A w W [ftE b f wv nv mv,.mem M]→(Fo.named f.name 1&&decide (0≤f.first)&&decide (f.widths.length≤4096)&&decide (f.first+f.widths.length≤Fo.room f.wide)&&Fo.wid f.missing)=false→K (.returned (.bool false)) W:=by
  intro W ho h0;rw[h0,Bool.false_and] at hK;exact hK _ _ M _ 1 ho rfl M.le_refl rfl
 have hr:Fo.room f.wide=65536∨Fo.room f.wide=256:=by cases f.wide<;>simp[Fo.room]
 refine quietC (fun W=>OwnS M.A w W [ftE b f wv nv mv,.mem M]) ho.drew ?_;refine q_do _ (fun _=>r_faf 0 0 (fo_f 0)) ?_;refine q_at (.string ⟨f.name.toArray⟩) (fun W h=>run_load_cell nStr5 (h.cell 0 rfl 0 rfl)) ?_;refine q_call (.bool (Fo.named f.name 1)) (fun W hW=>ret_sameC (named47_ret f.name 1 W (by decide)) hW) ?_;refine q_do (.bool (!Fo.named f.name 1)) (fun _=>r_not) ?_;cases hA:Fo.named f.name 1 with
|false=>
  simp only[Bool.not_false,gq_tf]
  repeat (first|refine q_pt ?_|simp only[gq_tf])
  intro W ho;simp only[i_t];exact no W ho (by rw[hA];rfl)
|true=>
 rw[hA] at no rest;simp only[Bool.not_true,gq_ff];refine q_do _ (fun _=>r_faf 2 2 (fo_f 2)) ?_;refine q_at (.int .i64 f.first) (fun W h=>run_load_cell nInt5 (h.cell 0 rfl 2 rfl)) ?_;refine q_lss ?_;refine q_pf ?_;by_cases a1:f.first < 0
 ·simp only[decide_eq_true a1,gq_tf]
  repeat (first|refine q_pt ?_|simp only[gq_tf])
  intro W ho;simp only[i_t];exact no W ho (by rw[decide_eq_false (show ¬0≤f.first by omega)];rfl)
 rw[decide_eq_true (show 0≤f.first by omega)] at no rest;simp only[decide_eq_false a1,gq_ff];refine q_gtr ?_;refine q_pf ?_;by_cases a2:(4096:Int) < (f.widths.length:Int)
 ·simp only[decide_eq_true a2,gq_tf]
  repeat (first|refine q_pt ?_|simp only[gq_tf])
  intro W ho;simp only[i_t];exact no W ho (by rw[decide_eq_false (show ¬f.widths.length≤4096 by omega)];rfl)
 rw[decide_eq_true (show f.widths.length≤4096 by omega)] at no rest;simp only[decide_eq_false a2,gq_ff];refine q_do _ (fun _=>r_faf 2 2 (fo_f 2)) ?_;refine q_at (.int .i64 f.first) (fun W h=>run_load_cell nInt5 (h.cell 0 rfl 2 rfl)) ?_;refine q_do _ (fun _=>r_faf 1 1 (fo_f 1)) ?_;refine q_at (.bool f.wide) (fun W h=>run_load_cell nBool47 (h.cell 0 rfl 1 rfl)) ?_;refine q_call (.int .i64 (Fo.room f.wide)) (fun W hW=>ret_sameC (codes1_ret f.wide W) hW) ?_;refine q_do (.int .i64 (Fo.room f.wide - (f.widths.length:Int))) (fun _=>by rw[r_sub,wrap64_id (by omega) (by omega)]) ?_;refine q_gtr ?_;refine q_pf ?_;by_cases a3:Fo.room f.wide - (f.widths.length:Int) < f.first
 ·simp only[decide_eq_true a3,gq_tf]
  repeat (first|refine q_pt ?_|simp only[gq_tf])
  intro W ho;simp only[i_t];exact no W ho (by rw[decide_eq_false (show ¬f.first+(f.widths.length:Int)≤Fo.room f.wide by omega)];rfl)
 rw[decide_eq_true (show f.first+(f.widths.length:Int)≤Fo.room f.wide by omega)] at no rest;simp only[decide_eq_false a3,gq_ff];refine q_do _ (fun _=>r_faf 4 4 (fo_f 4)) ?_;refine q_at (.int .i64 f.missing) (fun W h=>run_load_cell nI65 (h.cell 0 rfl 4 rfl)) ?_;refine q_call (.bool (Fo.wid f.missing)) (fun W hW=>ret_sameC (bounded47_ret f.missing W) hW) ?_;refine q_do (.bool (!Fo.wid f.missing)) (fun _=>r_not) ?_;refine q_pf ?_;intro W ho;cases hW:Fo.wid f.missing with
|false=>
  simp only[Bool.not_false,i_t];exact no W ho (by rw[hW];rfl)
|true=>
  simp only[Bool.not_true,i_f];exact rest W ho (by rw[hW];rfl)
theorem fcheck47_ret (f:Ft)(wv nv mv:Value)(M:Mem)(w:World)(hut:UtM M)(hok:FtOk f)(hM:M.has w)(h:FtAt M f wv nv mv):RetM prog 16 #[ftV f wv nv mv] M w (fun r _=>r=.int .i64 (Fo.check f)):=by
 refine retM_of hM fun K hK=>S_font_Check_ok ?_;unfold Fo.check at hK;unfold S_font_Check;refine o_ftb f h (OwnS.memS hM) fun b w1 ho=>?_;rw[l_at (ho.agg 0 rfl aggFt)];refine c_mem ho 1 rfl (may47_ret f wv nv mv M w1 hok (ho.hasM 1 rfl) h) ?_;rintro _ N w2 hle rfl ho;cases hm:Fo.may f with
|false=>
  rw[hm] at hK;simp only[rs,Bool.not_false,i_t];exact hK _ _ N _ 1 ho rfl hle rfl
|true=>
  rw[hm] at hK;simp only[rs,Bool.not_true,i_f];rw[fa_f6,ft_mps ho 0 rfl,fa_f1,ft_wide ho 0 rfl];have h':=h.le hle;refine c_mem ho 1 rfl (ccheck46_ret f.maps f.wide mv N w2 (hut.le hle) (by have:=hok.ml;omega) hok.ms (ho.hasM 1 rfl) h'.ms) ?_;rintro _ N2 w3 l2 rfl ho;exact hK _ _ N2 _ 1 ho rfl (hle.trans l2) rfl
end
section
open Eng Go.RowKit
theorem rfcheck47_ret (f:Ft)(wv nv mv:Value)(M:Mem)(w:World)(hok:FtOk f)(hM:M.has w)(h:FtAt M f wv nv mv):RetM prog 17 #[ftV f wv nv mv] M w (fun r _=>r=.int .i64 (Fo.check f)):=by
 have hwl:=hok.wl;have hnl:=hok.nl;have hfi:=hok.first
 have hr:Fo.room f.wide=65536∨Fo.room f.wide=256:=by cases f.wide<;>simp[Fo.room]
 refine retM_of hM fun K hK=>S_foliantref47_Check_ok ?_;unfold Fo.check at hK;rw[Fo.may_split] at hK;unfold S_foliantref47_Check;refine o_ftb f h (OwnS.memS hM) fun b w1 ho=>?_;have go:S_foliantref47_Check_0 (.pointer (some ⟨b,0,none⟩)) (.int .i64 (Fo.room f.wide)) w1 K:=by
  unfold S_foliantref47_Check_0;have no:∀{W},OwnS M.A w W [ftE b f wv nv mv,.mem M]→(Fo.named f.name 1&&decide (0≤f.first)&&decide (f.widths.length≤4096)&&decide (f.first+f.widths.length≤Fo.room f.wide)&&Fo.wid f.missing)=false→K (.returned (.int .i64 1)) W:=by
   intro W ho h0;rw[h0,Bool.false_and,if_pos rfl] at hK;exact hK _ _ M _ 1 ho rfl M.le_refl rfl
  have rest:∀{W},OwnS M.A w W [ftE b f wv nv mv,.mem M]→(Fo.named f.name 1&&decide (0≤f.first)&&decide (f.widths.length≤4096)&&decide (f.first+f.widths.length≤Fo.room f.wide)&&Fo.wid f.missing)=true →
    LoopX [(.int .i64 0)] W (fun vs2 w N2=>∀_:Sg,S_foliantref47_Check_1 (.pointer (some ⟨b,0,none⟩)) (vs2.getD 0 undef) w N2 K):=by
   intro W ho hhead;rw[hhead,Bool.true_and] at hK;refine loop (fun vs W=>∃i:Nat,vs=[.int .i64 (i:Int)]∧i≤f.widths.length∧f.widths.all Fo.wid=(f.widths.drop i).all Fo.wid∧OwnS M.A w W [ftE b f wv nv mv,.mem M]) (fun vs _=>f.widths.length - n0 vs) ⟨0,rfl,by omega,by simp,ho⟩ ?_;clear ho;rintro vs w2 ⟨i,rfl,hi,hal,ho⟩ _;simp only[S_foliantref47_Check_1,gd];rw[fa_f3,ft_ws ho 0 rfl,sl_len Tryz.underlying22 (h.ws.now (ho.hasM 1 rfl))]
   try simp only[rs]
   by_cases hlt:(i:Int) < (f.widths.length:Int)
   ·simp only[decide_eq_true hlt,i_t];have hi':i < f.widths.length:=by omega
    rw[fa_f3,ft_ws ho 0 rfl];obtain⟨g,off,cap,hwv,hc⟩:=sl_open (h.ws.now (ho.hasM 1 rfl)) (by omega);subst hwv;refine do_eq (run_ia Tryz.underlying22 (show _=some 1 by kernel_rfl) (by omega) (by omega)) |>.mpr ?_;rw[Int.toNat_natCast,Nat.mul_one,l_cell nI65 (hc i _ (intsW_get hi'))];refine c_eq (rwidth1_ret f.widths[i] w2) ?_;rw[Fo.all_drop _ hi'] at hal;cases hwd:Fo.wid f.widths[i] with
   |false=>
     rw[hwd,Bool.false_and] at hal;rw[hal,Bool.false_and,if_pos rfl] at hK;simp only[rs,Bool.not_false,i_t];exact hK _ _ M _ 1 ho rfl M.le_refl rfl
   |true=>
     rw[hwd,Bool.true_and] at hal;simp only[rs,Bool.not_true,i_f];rw[wrap64_id (by omega) (by omega)];exact nextX ⟨i+1,rfl,by omega,hal,ho⟩ (by simp[n0,RowKit.intOf];omega)
   simp only[decide_eq_false hlt,i_f];rw[List.drop_of_length_le (by omega)] at hal;rw[hal,List.all_nil,Bool.true_and] at hK;rw[fa_f5,ft_nms ho 0 rfl,sl_len Tryz.underlying23 (h.ns.now (ho.hasM 1 rfl))]
   try simp only[rs]
   have loop3:∀{W:World},OwnS M.A w W [ftE b f wv nv mv,.mem M]→(decide (f.names=[])||(!f.wide&&decide (f.names.length=256)))=true →
     LoopX [(.int .i64 0)] W (fun vs3 w N3=>∀_:Sg,S_foliantref47_Check_2 (.pointer (some ⟨b,0,none⟩)) (vs3.getD 0 undef) w N3 K):=by
    intro W ho hnm;rw[hnm,Bool.true_and] at hK;refine loop (fun vs W=>∃i:Nat,vs=[.int .i64 (i:Int)]∧i≤f.names.length∧(f.names.all fun s=>Fo.named s 0)=(f.names.drop i).all (fun s=>Fo.named s 0)∧OwnS M.A w W [ftE b f wv nv mv,.mem M]) (fun vs _=>f.names.length - n0 vs) ⟨0,rfl,by omega,by simp,ho⟩ ?_;clear ho;rintro vs w2 ⟨i,rfl,hi,hal,ho⟩ _;simp only[S_foliantref47_Check_2,gd];rw[fa_f5,ft_nms ho 0 rfl,sl_len Tryz.underlying23 (h.ns.now (ho.hasM 1 rfl))]
    try simp only[rs]
    by_cases hlt:(i:Int) < (f.names.length:Int)
    ·simp only[decide_eq_true hlt,i_t];have hi':i < f.names.length:=by omega
     rw[fa_f5,ft_nms ho 0 rfl];obtain⟨g,off,cap,hnv,hc⟩:=sl_open (h.ns.now (ho.hasM 1 rfl)) (by omega);subst hnv;refine do_eq (run_ia Tryz.underlying23 (show _=some 1 by kernel_rfl) (by omega) (by omega)) |>.mpr ?_;rw[Int.toNat_natCast,Nat.mul_one,l_cell nStr5 (hc i _ (strsV_get hi'))];refine c_eq (rname47_ret f.names[i] 0 w2 (by decide) (by have:=hok.nms _ (List.getElem_mem hi');omega)) ?_;rw[Fo.all_drop _ hi'] at hal;cases hwd:Fo.named f.names[i] 0 with
    |false=>
      rw[hwd,Bool.false_and] at hal;rw[hal,if_pos rfl] at hK;simp only[rs,Bool.not_false,i_t];exact hK _ _ M _ 1 ho rfl M.le_refl rfl
    |true=>
      rw[hwd,Bool.true_and] at hal;simp only[rs,Bool.not_true,i_f];rw[wrap64_id (by omega) (by omega)];exact nextX ⟨i+1,rfl,by omega,hal,ho⟩ (by simp[n0,RowKit.intOf];omega)
    simp only[decide_eq_false hlt,i_f];rw[List.drop_of_length_le (by omega)] at hal;rw[hal,List.all_nil,if_neg (by decide)] at hK;rw[fa_f6,ft_mps ho 0 rfl,fa_f1,ft_wide ho 0 rfl];refine c_mem ho 1 rfl (rcheck46_ret f.maps f.wide mv M w2 (by have:=hok.ml;omega) hok.ms (ho.hasM 1 rfl) h.ms) ?_;rintro _ N2 w3 l2 rfl ho;exact hK _ _ N2 _ 1 ho rfl l2 rfl
   by_cases hn0:(f.names.length:Int)=0
   ·have hnn:f.names=[]:=List.eq_nil_of_length_eq_zero (by omega);simp only[decide_eq_false (show ¬(f.names.length:Int)≠0 by omega),rs,g_un,i_f];exact loop3 ho (by rw[hnn];rfl)
   have hnn:f.names≠[]:=fun h=>hn0 (by rw[h];rfl);simp only[decide_eq_true (show (f.names.length:Int)≠0 by omega),rs];rw[fa_f1,ft_wide ho 0 rfl]
   try simp only[rs]
   cases hwide:f.wide with
  |true=>
    rw[decide_eq_false hnn,hwide] at hK;simp only[rs,g_un,i_t];exact hK _ _ M _ 1 ho rfl M.le_refl rfl
  |false=>
    try simp only[rs]
    rw[fa_f5,ft_nms ho 0 rfl]
    try simp only[rs]
    rw[sl_len Tryz.underlying23 (h.ns.now (ho.hasM 1 rfl))]
    try simp only[rs]
    by_cases h256:(f.names.length:Int)=256
    ·simp only[decide_eq_false (show ¬(f.names.length:Int)≠256 by omega),rs,i_f];exact loop3 ho (by rw[hwide,decide_eq_true (show f.names.length=256 by omega)];simp)
    ·rw[decide_eq_false hnn,decide_eq_false (show ¬f.names.length=256 by omega)] at hK;simp only[decide_eq_true (show (f.names.length:Int)≠256 by omega),rs,i_t];exact hK _ _ M _ 1 ho rfl M.le_refl (by simp)
  rw[fa_f0,ft_name ho 0 rfl];refine c_eq (rname47_ret f.name 1 w1 (by decide) (by have:=hok.name;omega)) ?_;cases hA:Fo.named f.name 1 with
 |false=>
   simp only[rs,Bool.not_false,g_tf,g_un,i_t];exact no ho (by rw[hA];rfl)
 |true=>
  rw[hA] at no rest;simp only[rs,Bool.not_true];rw[fa_f2,ft_first ho 0 rfl]
  try simp only[rs]
  by_cases a1:f.first < 0
  ·simp only[decide_eq_true a1,rs,g_un,i_t];exact no ho (by rw[decide_eq_false (show ¬0≤f.first by omega)];rfl)
  rw[decide_eq_true (show 0≤f.first by omega)] at no rest;simp only[decide_eq_false a1,rs];rw[fa_f2,ft_first ho 0 rfl]
  try simp only[rs]
  by_cases a0:Fo.room f.wide < f.first
  ·simp only[decide_eq_true a0,rs,g_un,i_t];exact no ho (by rw[decide_eq_false (show ¬f.first+(f.widths.length:Int)≤Fo.room f.wide by omega),Bool.and_false];rfl)
  simp only[decide_eq_false a0,rs];rw[fa_f2,ft_first ho 0 rfl]
  try simp only[rs]
  rw[fa_f3,ft_ws ho 0 rfl]
  try simp only[rs]
  rw[sl_len Tryz.underlying22 (h.ws.now (ho.hasM 1 rfl))]
  try simp only[rs]
  rw[wrap64_id (n:=f.first+(f.widths.length:Int)) (by omega) (by omega)];by_cases a3:Fo.room f.wide < f.first+(f.widths.length:Int)
  ·simp only[decide_eq_true a3,rs,g_un,i_t];exact no ho (by rw[decide_eq_false (show ¬f.first+(f.widths.length:Int)≤Fo.room f.wide by omega),Bool.and_false];rfl)
  simp only[decide_eq_false a3,rs];rw[decide_eq_true (show f.first+(f.widths.length:Int)≤Fo.room f.wide by omega)] at no rest;rw[fa_f3,ft_ws ho 0 rfl]
  try simp only[rs]
  rw[sl_len Tryz.underlying22 (h.ws.now (ho.hasM 1 rfl))]
  try simp only[rs]
  by_cases a2:(4096:Int) < (f.widths.length:Int)
  ·simp only[decide_eq_true a2,rs,g_un,i_t];exact no ho (by rw[decide_eq_false (show ¬f.widths.length≤4096 by omega)];rfl)
  rw[decide_eq_true (show f.widths.length≤4096 by omega)] at no rest;simp only[decide_eq_false a2,rs];rw[fa_f4,ft_miss ho 0 rfl]
  try simp only[rs]
  refine c_eq (rwidth1_ret f.missing w1) ?_;cases hW:Fo.wid f.missing with
 |false=>
   simp only[rs,Bool.not_false,i_t];exact no ho (by rw[hW];rfl)
 |true=>
   simp only[rs,Bool.not_true,i_f];exact rest ho (by rw[hW];rfl)
 refine join fun J hJ=>?_;rw[fa_f1,ft_wide ho 0 rfl];cases hwide:f.wide with
|true=>simp only[i_t];rw[hwide] at go;exact hJ _ _ fun _=>go
|false=>simp only[i_f];rw[hwide] at go;exact hJ _ _ fun _=>go
end
section
open Eng Go.RowKit
theorem fwidth47_ret (f:Ft)(c:Int)(wv nv mv:Value)(M:Mem)(w:World)(hok:FtOk f)(hc:-9223372036854775808≤c∧c≤9223372036854775807)(hM:M.has w)(h:FtAt M f wv nv mv) :
  RetM prog 10 #[ftV f wv nv mv,.int .i64 c] M w (fun r _=>r=.int .i64 (Fo.width f c)):=by
 have hwl:=hok.wl;have hfi:=hok.first
 refine retM_of hM fun K hK=>S_font_Width_ok ?_;unfold Fo.width at hK;unfold S_font_Width;refine o_ftb f h (OwnS.memS hM) fun b w1 ho=>?_;have out:(c < f.first∨(f.widths.length:Int)≤c - f.first)→DoX prog (mFA 26 (.pointer (some ⟨b,0,none⟩)) 4) w1 (pk K) (fun t26 w=>DoX prog (mLoad 2 t26) w (pk K) fun t27 w=>K (.returned t27) w):=by
  intro hx;rw[if_pos hx] at hK;rw[fa_f4,ft_miss ho 0 rfl];exact hK _ _ M _ 1 ho rfl M.le_refl rfl
 rw[fa_f2,ft_first ho 0 rfl]
 try simp only[rs]
 by_cases a1:c < f.first
 ·simp only[decide_eq_true a1,rs,g_un,i_t];exact out (.inl a1)
 simp only[decide_eq_false a1,rs];rw[fa_f2,ft_first ho 0 rfl]
 try simp only[rs]
 rw[fa_f3,ft_ws ho 0 rfl]
 try simp only[rs]
 rw[sl_len Tryz.underlying22 (h.ws.now (ho.hasM 1 rfl))]
 try simp only[rs]
 by_cases a2:c - f.first≤9223372036854775807
 ·rw[wrap64_id (n:=c - f.first) (by omega) a2];by_cases a3:(f.widths.length:Int)≤c - f.first
  ·simp only[decide_eq_true a3,rs,g_un,i_t];exact out (.inr a3)
  simp only[decide_eq_false a3,rs];rw[fa_f2,ft_first ho 0 rfl]
  try simp only[rs]
  rw[wrap64_id (n:=c - f.first) (by omega) a2];simp only[decide_eq_false (show ¬c - f.first < 0 by omega),i_f];rw[if_neg (by omega)] at hK;rw[fa_f3,ft_ws ho 0 rfl,fa_f2,ft_first ho 0 rfl]
  try simp only[rs]
  rw[wrap64_id (n:=c - f.first) (by omega) a2];obtain⟨g,off,cap,hwv,hcc⟩:=sl_open (h.ws.now (ho.hasM 1 rfl)) (by omega);subst hwv;refine do_eq (run_ia Tryz.underlying22 (show _=some 1 by kernel_rfl) (by omega) (by omega)) |>.mpr ?_;have hi':(c - f.first).toNat < f.widths.length:=by omega
  rw[Nat.mul_one,l_cell nI65 (hcc _ _ (intsW_get hi'))];refine hK _ _ M _ 1 ho rfl M.le_refl ?_;rw[List.getD_eq_getElem?_getD,List.getElem?_eq_getElem hi'];rfl
 ·-- the difference is too large: the program sees a negative one
  have ew:IntKind.wrap .i64 (c - f.first)=c - f.first - 18446744073709551616:=by
   unfold IntKind.wrap;simp only[IntKind.bits,IntKind.signed];have e:(2:Int) ^ 64=18446744073709551616:=by decide
   simp only[e];have e2:(c - f.first) % 18446744073709551616=c - f.first:=Int.emod_eq_of_lt (by omega) (by omega)
   rw[e2];have e3:(2:Int) ^ (64 - 1)=9223372036854775808:=by decide
   simp only[e3];rw[if_pos (by simp;omega)]
  rw[ew];simp only[decide_eq_false (show ¬(f.widths.length:Int)≤c - f.first - 18446744073709551616 by omega),rs];rw[fa_f2,ft_first ho 0 rfl]
  try simp only[rs]
  rw[ew];simp only[decide_eq_true (show c - f.first - 18446744073709551616 < 0 by omega),i_t];exact out (.inr (by omega))
theorem c_u64 {w:World}{PK:PKT}{K:VWP}{n:Int}:DoX prog (mConv 3 59 (.int .i64 n)) w PK K=K (.int .u64 (IntKind.wrap .u64 n)) w:=
 c_int (show (Tryz.prog.underlying 3).isSome=true by kernel_rfl) Tryz.underlying59
theorem wrapU (n:Int):IntKind.wrap .u64 n=n % 18446744073709551616:=by
 unfold IntKind.wrap;simp only[IntKind.bits,IntKind.signed];simp
theorem rwidth47_ret (f:Ft)(c:Int)(wv nv mv:Value)(M:Mem)(w:World)(hok:FtOk f)(hc:-9223372036854775808≤c∧c≤9223372036854775807)(hM:M.has w)(h:FtAt M f wv nv mv) :
  RetM prog 11 #[ftV f wv nv mv,.int .i64 c] M w (fun r _=>r=.int .i64 (Fo.width f c)):=by
 have hwl:=hok.wl;have hfi:=hok.first
 refine retM_of hM fun K hK=>S_foliantref47_Width_ok ?_;unfold Fo.width at hK;unfold S_foliantref47_Width;refine o_ftb f h (OwnS.memS hM) fun b w1 ho=>?_;have out:(c < f.first∨(f.widths.length:Int)≤c - f.first)→DoX prog (mFA 26 (.pointer (some ⟨b,0,none⟩)) 4) w1 (pk K) (fun t26 w=>DoX prog (mLoad 2 t26) w (pk K) fun t27 w=>K (.returned t27) w):=by
  intro hx;rw[if_pos hx] at hK;rw[fa_f4,ft_miss ho 0 rfl];exact hK _ _ M _ 1 ho rfl M.le_refl rfl
 have ed:c≥f.first→IntKind.wrap .u64 (IntKind.wrap .u64 c - IntKind.wrap .u64 f.first)=c - f.first:=by
  intro hge;rw[wrapU,wrapU,wrapU];omega
 have el:IntKind.wrap .u64 (f.widths.length:Int)=(f.widths.length:Int):=by rw[wrapU];omega
 rw[fa_f2,ft_first ho 0 rfl]
 try simp only[rs]
 by_cases a1:c < f.first
 ·simp only[decide_eq_true a1,rs,g_un,i_t];exact out (.inl a1)
 simp only[decide_eq_false a1,rs];rw[c_u64]
 try simp only[rs]
 rw[fa_f2,ft_first ho 0 rfl]
 try simp only[rs]
 rw[c_u64]
 try simp only[rs]
 rw[fa_f3,ft_ws ho 0 rfl]
 try simp only[rs]
 rw[sl_len Tryz.underlying22 (h.ws.now (ho.hasM 1 rfl))]
 try simp only[rs]
 rw[c_u64]
 try simp only[rs]
 rw[ed (by omega),el];by_cases a3:(f.widths.length:Int)≤c - f.first
 ·simp only[decide_eq_true a3,rs,i_t];exact out (.inr a3)
 simp only[decide_eq_false a3,rs,i_f];rw[if_neg (by omega)] at hK;rw[fa_f3,ft_ws ho 0 rfl,c_u64,fa_f2,ft_first ho 0 rfl,c_u64]
 try simp only[rs]
 rw[ed (by omega)];obtain⟨g,off,cap,hwv,hcc⟩:=sl_open (h.ws.now (ho.hasM 1 rfl)) (by omega);subst hwv;refine do_eq (run_ia Tryz.underlying22 (show _=some 1 by kernel_rfl) (by omega) (by omega)) |>.mpr ?_;have hi':(c - f.first).toNat < f.widths.length:=by omega
 rw[Nat.mul_one,l_cell nI65 (hcc _ _ (intsW_get hi'))];refine hK _ _ M _ 1 ho rfl M.le_refl ?_;rw[List.getD_eq_getElem?_getD,List.getElem?_eq_getElem hi'];rfl
namespace Fo
theorem pairs_len:∀s:List UInt8,(pairs s).length=s.length / 2
|[]=>rfl
|[_]=>by simp[pairs]
|a::b::t=>by rw[pairs,List.length_cons,pairs_len t];simp only[List.length_cons];omega
theorem pairs_take (s:List UInt8):∀(k:Nat) (h:2*k+1 < s.length),pairs (s.take (2*(k+1)))=pairs (s.take (2*k))++[256*((s[2*k]'(by omega)).toNat:Int)+(s[2*k+1].toNat:Int)]:=by
 intro k
 induction k generalizing s with
|zero=>
  intro h
  match s,h with
 |a::b::t,_=>simp[pairs]
|succ k ih=>
  intro h
  match s,h with
 |a::b::t,h=>
   have h':2*k+1 < t.length:=by simp only[List.length_cons] at h;omega
   have e1:pairs (a::b::t.take (2*(k+1)))=(256*(a.toNat:Int)+b.toNat)::pairs (t.take (2*(k+1))):=rfl;have e2:pairs (a::b::t.take (2*k))=(256*(a.toNat:Int)+b.toNat)::pairs (t.take (2*k)):=rfl;show pairs (a::b::t.take (2*(k+1)))=pairs (a::b::t.take (2*k))++[256*((t[2*k]'(by omega)).toNat:Int)+(t[2*k+1]'(by omega)).toNat];rw[e1,e2,ih t h'];rfl
end Fo
theorem or8F {v c:Nat}(hv:v < 65536)(hc:c < 256):bOr .i64 ((v*2 ^ 8:Nat):Int) (c:Int)=((v*2 ^ 8+c:Nat):Int):=by
 have h:v*2 ^ 8 ||| c=v*2 ^ 8+c:=by rw[Nat.mul_comm];exact (Nat.two_pow_add_eq_or_of_lt (i:=8) hc v).symm
 unfold bOr;rw[BitVec.toNat_or];simp only[BitVec.ofInt_natCast,BitVec.toNat_ofNat];rw[Nat.mod_eq_of_lt (show v*2 ^ 8 < 2 ^ IntKind.i64.bits by show _ < 18446744073709551616;omega),Nat.mod_eq_of_lt (show c < 2 ^ IntKind.i64.bits by show _ < 18446744073709551616;omega),h];exact wrap64_id (by omega) (by omega)
abbrev itE47 (v:Value)(l:List Int):Ent:=.urow 3 1 v l.length (intsW l)
theorem m_ap47 {S:Nat→Prop}{w w0:World}{PK PK2:PKT}{K:VWP}{L:List Ent}{u:Value}{l:List Int}{n:Int}{cb:Array Bool}(hb:l.length≤10000000000)(ho:OwnS S w0 w (itE47 u l::L))(k:∀v' w',OwnS S w0 w' (itE47 v' (l++[n])::L)→K v' w') :
  DoX prog (mBuildS 29 1 #[(0,.int .i64 n)]) w PK (fun t w=>DoX prog (mB .append #[29,29] 29 cb #[u,t]) w PK2 K):=by
 refine o_ints1 n ho fun b6 w3 ho=>?_;refine o_apInt 1 ho rfl (ho.sl 0 rfl 1 1 1 rfl) intsW_one (by omega) fun u' w4 ho=>?_;refine k u' w4 ?_;have e:itE47 u' (l++[n])=.urow 3 1 u' (l.length+1) (intsW l++intsW [n]):=by simp[itE47,intsW]
 rw[e];exact ho.tail
theorem fcodes47_ret (f:Ft)(s:List UInt8)(wv nv mv:Value)(M:Mem)(w:World)(hs:s.length≤1000000000)(hM:M.has w)(h:FtAt M f wv nv mv) :
  RetM prog 7 #[ftV f wv nv mv,.string ⟨s.toArray⟩] M w (fun r N=>∃lv,r=.tuple #[lv,.int .i64 (Fo.codes f s).2]∧SlA N.A N.w lv 1 (Fo.codes f s).1.length (intsW (Fo.codes f s).1)):=by
 refine retM_of hM fun K hK=>S_font_Codes_ok ?_;generalize hX:Fo.codes f s=X at hK;unfold Fo.codes at hX;unfold S_font_Codes;refine o_ftb f h (OwnS.memS hM) fun b w1 ho=>?_;rw[fa_f1,ft_wide ho 0 rfl];have fin:∀{W:World} {u:Value} {l:List Int},OwnS M.A w W [itE47 u l,ftE b f wv nv mv,.mem M]→X=(l,0)→K (.returned (.tuple #[u,(.int .i64 0)])) W:=by
  intro W u l ho hx;obtain⟨N,l2,hs2,ho⟩:=OwnS.freezeU ho 1 rfl;exact hK _ _ N _ 1 ho rfl l2 ⟨u,by rw[hx],by rw[hx];exact hs2⟩
 cases hw:f.wide with
|false=>
  rw[if_pos hw] at hX;simp only[rs,Bool.not_false,i_t];rw[s_len Tryz.underlying9];refine loop (fun vs W=>∃(i:Nat) (u:Value),vs=[u,.int .i64 (i:Int)]∧i≤s.length∧OwnS M.A w W [itE47 u ((s.take i).map fun c=>(c.toNat:Int)),ftE b f wv nv mv,.mem M]) (fun vs _=>s.length - n1 vs) ⟨0,_,rfl,by omega,OwnS.nilU ho _ _⟩ ?_;clear ho;rintro vs w2 ⟨i,u,rfl,hi,ho⟩ _;simp only[S_font_Codes_0,gd,rs];by_cases hlt:(i:Int) < (s.length:Int)
  case neg=>
   simp only[decide_eq_false hlt,i_f];rw[List.take_of_length_le (by omega)] at ho;exact fin ho hX.symm
  simp only[decide_eq_true hlt,i_t];have hi':i < s.length:=by omega
  have hcl:=s[i].toNat_lt;rw[s_ix (c:=s[i]) Tryz.underlying9 (by omega) (by rw[Int.toNat_natCast];exact List.getElem?_eq_getElem hi'),c_64 (by omega) (by omega)];refine m_ap47 (by rw[List.length_map,List.length_take];omega) ho fun u' w3 ho=>?_
  try simp only[rs]
  rw[wrap64_id (by omega) (by omega)];refine nextX ⟨i+1,u',rfl,by omega,?_⟩ (by simp[n1,RowKit.intOf];omega);rw[List.take_succ_eq_append_getElem hi',List.map_append];exact ho
|true=>
  rw[if_neg (by rw[hw];decide)] at hX;simp only[rs,Bool.not_true,i_f];rw[s_len Tryz.underlying9,b_rem (by decide),show ((s.length:Int).tmod 2)=((s.length % 2:Nat):Int) by rw[Int.tmod_eq_emod_of_nonneg (by omega)];omega]
  try simp only[rs]
  by_cases h2:s.length % 2=0
  case neg=>
   rw[if_pos h2] at hX;simp only[decide_eq_true (show ((s.length % 2:Nat):Int)≠0 by omega),i_t];exact hK _ _ M _ 1 ho rfl M.le_refl ⟨_,by rw[←hX],by rw[←hX];exact SlA.nil _ _ _ _⟩
  rw[if_neg (by omega)] at hX;simp only[decide_eq_false (show ¬((s.length % 2:Nat):Int)≠0 by omega),i_f];refine loop (fun vs W=>∃(i:Nat) (u:Value),vs=[u,.int .i64 ((2*i:Nat):Int)]∧2*i≤s.length∧OwnS M.A w W [itE47 u (Fo.pairs (s.take (2*i))),ftE b f wv nv mv,.mem M]) (fun vs _=>s.length - n1 vs) ⟨0,_,rfl,by omega,OwnS.nilU ho _ _⟩ ?_;clear ho;rintro vs w2 ⟨i,u,rfl,hi,ho⟩ _;simp only[S_font_Codes_1,gd];rw[s_len Tryz.underlying9]
  try simp only[rs]
  by_cases hlt:((2*i:Nat):Int) < (s.length:Int)
  case neg=>
   simp only[decide_eq_false hlt,i_f];rw[List.take_of_length_le (by omega)] at ho;exact fin ho hX.symm
  simp only[decide_eq_true hlt,i_t];have h1':2*i+1 < s.length:=by omega
  have hi':2*i < s.length:=by omega
  have c1:=s[2*i].toNat_lt;have c2:=s[2*i+1].toNat_lt;refine quiet (q_do _ (fun w=>run_s_ix (i:=((2*i:Nat):Int)) (c:=s[2*i]) Tryz.underlying9 (by omega) (by rw[Int.toNat_natCast];exact List.getElem?_eq_getElem hi')) ?_);refine q_do _ (fun w=>run_64F w (by omega) (by omega)) ?_;refine q_do (.int .i64 ((s[2*i].toNat*2 ^ 8:Nat):Int)) (fun w=>by rw[r_shl (by decide),show (2:Int) ^ min (8:Int).toNat IntKind.i64.bits=2 ^ 8 from rfl,wrap64_id (by omega) (by omega)];congr 4<;>omega) ?_;refine q_do (.int .i64 ((2*i+1:Nat):Int)) (fun w=>by rw[r_add];congr 4;rw[wrap64_id (by omega) (by omega)];omega) ?_;refine q_do _ (fun w=>run_s_ix (i:=((2*i+1:Nat):Int)) (c:=s[2*i+1]) Tryz.underlying9 (by omega) (by rw[Int.toNat_natCast];exact List.getElem?_eq_getElem h1')) ?_;refine q_do _ (fun w=>run_64F w (by omega) (by omega)) ?_;refine q_do (.int .i64 ((s[2*i].toNat*2 ^ 8+s[2*i+1].toNat:Nat):Int)) (fun w=>by rw[r_or,or8F (by omega) (by omega)]) ?_;intro w3 hb;have ho:=ho.grow hb;refine m_ap47 (by rw[Fo.pairs_len,List.length_take];omega) ho fun u' w4 ho=>?_
  try simp only[rs]
  rw[wrap64_id (by omega) (by omega)];refine nextX ⟨i+1,u',by rw[show ((2*(i+1):Nat):Int)=((2*i:Nat):Int)+2 by omega],by omega,?_⟩ (by simp[n1,RowKit.intOf];omega);rw[Fo.pairs_take s i h1',show 256*(s[2*i].toNat:Int)+(s[2*i+1].toNat:Int)=((s[2*i].toNat*2 ^ 8+s[2*i+1].toNat:Nat):Int) by omega];exact ho
theorem rcodes47_ret (f:Ft)(s:List UInt8)(wv nv mv:Value)(M:Mem)(w:World)(hs:s.length≤1000000000)(hM:M.has w)(h:FtAt M f wv nv mv) :
  RetM prog 8 #[ftV f wv nv mv,.string ⟨s.toArray⟩] M w (fun r N=>∃lv,r=.tuple #[lv,.int .i64 (Fo.codes f s).2]∧SlA N.A N.w lv 1 (Fo.codes f s).1.length (intsW (Fo.codes f s).1)):=by
 refine retM_of hM fun K hK=>S_foliantref47_Codes_ok ?_;generalize hX:Fo.codes f s=X at hK;unfold Fo.codes at hX;unfold S_foliantref47_Codes;refine o_ftb f h (OwnS.memS hM) fun b w1 ho=>?_;rw[fa_f1,ft_wide ho 0 rfl];have fin:∀{W:World} {u:Value} {l:List Int},OwnS M.A w W [itE47 u l,ftE b f wv nv mv,.mem M]→X=(l,0)→K (.returned (.tuple #[u,(.int .i64 0)])) W:=by
  intro W u l ho hx;obtain⟨N,l2,hs2,ho⟩:=OwnS.freezeU ho 1 rfl;exact hK _ _ N _ 1 ho rfl l2 ⟨u,by rw[hx],by rw[hx];exact hs2⟩
 cases hw:f.wide with
|false=>
  rw[if_pos hw] at hX;simp only[rs,Bool.not_false,i_t];refine loop (fun vs W=>∃(i:Nat) (u:Value),vs=[u,.int .i64 (i:Int)]∧i≤s.length∧OwnS M.A w W [itE47 u ((s.take i).map fun c=>(c.toNat:Int)),ftE b f wv nv mv,.mem M]) (fun vs _=>s.length - n1 vs) ⟨0,_,rfl,by omega,OwnS.nilU ho _ _⟩ ?_;clear ho;rintro vs w2 ⟨i,u,rfl,hi,ho⟩ _;simp only[S_foliantref47_Codes_0,gd];rw[s_len Tryz.underlying9]
  try simp only[rs]
  by_cases hlt:(i:Int) < (s.length:Int)
  case neg=>
   simp only[decide_eq_false hlt,i_f];rw[List.take_of_length_le (by omega)] at ho;exact fin ho hX.symm
  simp only[decide_eq_true hlt,i_t];have hi':i < s.length:=by omega
  have hcl:=s[i].toNat_lt;rw[s_ix (c:=s[i]) Tryz.underlying9 (by omega) (by rw[Int.toNat_natCast];exact List.getElem?_eq_getElem hi'),c_64 (by omega) (by omega)];refine m_ap47 (by rw[List.length_map,List.length_take];omega) ho fun u' w3 ho=>?_
  try simp only[rs]
  rw[wrap64_id (by omega) (by omega)];refine nextX ⟨i+1,u',rfl,by omega,?_⟩ (by simp[n1,RowKit.intOf];omega);rw[List.take_succ_eq_append_getElem hi',List.map_append];exact ho
|true=>
  rw[if_neg (by rw[hw];decide)] at hX;simp only[rs,Bool.not_true,i_f];rw[s_len Tryz.underlying9,b_rem (by decide),show ((s.length:Int).tmod 2)=((s.length % 2:Nat):Int) by rw[Int.tmod_eq_emod_of_nonneg (by omega)];omega]
  try simp only[rs]
  by_cases h2:s.length % 2=0
  case neg=>
   rw[if_pos h2] at hX;simp only[decide_eq_true (show ((s.length % 2:Nat):Int)≠0 by omega),i_t];exact hK _ _ M _ 1 ho rfl M.le_refl ⟨_,by rw[←hX],by rw[←hX];exact SlA.nil _ _ _ _⟩
  rw[if_neg (by omega)] at hX;simp only[decide_eq_false (show ¬((s.length % 2:Nat):Int)≠0 by omega),i_f];refine loop (fun vs W=>∃(i:Nat) (u:Value),vs=[u,.int .i64 ((2*i:Nat):Int)]∧2*i≤s.length∧OwnS M.A w W [itE47 u (Fo.pairs (s.take (2*i))),ftE b f wv nv mv,.mem M]) (fun vs _=>s.length - n1 vs) ⟨0,_,rfl,by omega,OwnS.nilU ho _ _⟩ ?_;clear ho;rintro vs w2 ⟨i,u,rfl,hi,ho⟩ _;simp only[S_foliantref47_Codes_1,gd,rs];rw[s_len Tryz.underlying9]
  try simp only[rs]
  rw[wrap64_id (n:=((2*i:Nat):Int)+1) (by omega) (by omega)];by_cases hlt:((2*i:Nat):Int)+1 < (s.length:Int)
  case neg=>
   simp only[decide_eq_false hlt,i_f];rw[List.take_of_length_le (by omega)] at ho;exact fin ho hX.symm
  simp only[decide_eq_true hlt,i_t];have h1':2*i+1 < s.length:=by omega
  have hi':2*i < s.length:=by omega
  have c1:=s[2*i].toNat_lt;have c2:=s[2*i+1].toNat_lt;refine quiet (q_do _ (fun w=>run_s_ix (i:=((2*i:Nat):Int)) (c:=s[2*i]) Tryz.underlying9 (by omega) (by rw[Int.toNat_natCast];exact List.getElem?_eq_getElem hi')) ?_);refine q_do _ (fun w=>run_64F w (by omega) (by omega)) ?_;refine q_do (.int .i64 (256*(s[2*i].toNat:Int))) (fun w=>by rw[r_mul,wrap64_id (by omega) (by omega)]) ?_;refine q_do (.int .i64 ((2*i+1:Nat):Int)) (fun w=>by rw[r_add];congr 4;rw[wrap64_id (by omega) (by omega)];omega) ?_;refine q_do _ (fun w=>run_s_ix (i:=((2*i+1:Nat):Int)) (c:=s[2*i+1]) Tryz.underlying9 (by omega) (by rw[Int.toNat_natCast];exact List.getElem?_eq_getElem h1')) ?_;refine q_do _ (fun w=>run_64F w (by omega) (by omega)) ?_;refine q_do (.int .i64 (256*(s[2*i].toNat:Int)+(s[2*i+1].toNat:Int))) (fun w=>by rw[r_add,wrap64_id (by omega) (by omega)]) ?_;intro w3 hb;have ho:=ho.grow hb;refine m_ap47 (by rw[Fo.pairs_len,List.length_take];omega) ho fun u' w4 ho=>?_
  try simp only[rs]
  rw[wrap64_id (by omega) (by omega)];refine nextX ⟨i+1,u',by rw[show ((2*(i+1):Nat):Int)=((2*i:Nat):Int)+2 by omega],by omega,?_⟩ (by simp[n1,RowKit.intOf];omega);rw[Fo.pairs_take s i h1'];exact ho
theorem fsay47_ret (f:Ft)(c:Int)(wv nv mv:Value)(M:Mem)(w:World)(hsp:SpM M)(hok:FtOk f)(hM:M.has w)(h:FtAt M f wv nv mv) :
  RetM prog 12 #[ftV f wv nv mv,.int .i64 c] M w (fun r _=>r=.string ⟨(Fo.say f c).toArray⟩):=by
 refine retM_of hM fun K hK=>S_font_Say_ok ?_;generalize hX:Fo.say f c=X at hK;unfold Fo.say at hX;unfold S_font_Say;refine o_ftb f h (OwnS.memS hM) fun b w1 ho=>?_;rw[fa_f6,ft_mps ho 0 rfl];refine c_mem ho 1 rfl (cfind46_ret f.maps c mv M w1 (by have:=hok.ml;omega) (ho.hasM 1 rfl) h.ms) ?_;rintro _ N w2 hle rfl ho;simp only[ex];cases hf:Cm.find f.maps c with
|some x=>
  rw[hf] at hX;simp only[Option.isSome_some,i_t];exact hK _ _ N _ 1 ho rfl hle (by rw[←hX];rfl)
|none=>
  rw[hf] at hX;dsimp only at hX;simp only[Option.isSome_none,i_f];rw[fa_f5,ft_nms ho 0 rfl];have h':=h.le hle;have go:∀{W:World} {N2:Mem} {v:Value} {J:List Value→World→Prop},(∀vs W,(∀_:Sg,S_font_Say_0 (.int .i64 c) (.pointer (some ⟨b,0,none⟩)) (vs.getD 0 undef) W K)→J vs W)→OwnS M.A w W [ftE b f wv nv mv,.mem N2]→N.le N2→SlA N2.A N2.w v 1 (Fo.names f).length (strsV (Fo.names f))→J [v] W:=by
   intro W N2 v J hJ ho l2 hv;refine hJ _ _ fun _=>?_;simp only[S_font_Say_0,gd];rw[fa_f1,ft_wide ho 0 rfl];have no:(f.wide=true∨c < 0∨((Fo.names f).length:Int)≤c)→K (.returned (.string ⟨#[]⟩)) W:=fun hx=>by
    rw[if_pos hx] at hX;exact hK _ _ N2 _ 1 ho rfl (hle.trans l2) (by rw[←hX])
   cases hw:f.wide with
  |true=>
    simp only[rs,g_un,i_t];exact no (.inl hw)
  |false=>
   try simp only[rs]
   by_cases a1:c < 0
   ·simp only[decide_eq_true a1,rs,g_un,i_t];exact no (.inr (.inl a1))
   simp only[decide_eq_false a1,rs];rw[sl_len Tryz.underlying23 (hv.now (ho.hasM 1 rfl))]
   try simp only[rs]
   by_cases a2:((Fo.names f).length:Int)≤c
   ·simp only[decide_eq_true a2,rs,i_t];exact no (.inr (.inr a2))
   simp only[decide_eq_false a2,rs,i_f];rw[if_neg (by rw[hw];simp;omega)] at hX;obtain⟨g,off,cap,rfl,hcc⟩:=sl_open (hv.now (ho.hasM 1 rfl)) (by omega);refine do_eq (run_ia Tryz.underlying23 (show _=some 1 by kernel_rfl) (by omega) (by omega)) |>.mpr ?_;have hi':c.toNat < (Fo.names f).length:=by omega
   rw[Nat.mul_one,l_cell nStr5 (hcc _ _ (strsV_get hi'))];refine c_mem ho 1 rfl (sign47_ret _ N2 W ((hsp.le hle).le l2) (ho.hasM 1 rfl)) ?_;rintro _ N3 w3 l3 rfl ho;refine hK _ _ N3 _ 1 ho rfl ((hle.trans l2).trans l3) ?_;rw[←hX,List.getD_eq_getElem?_getD,List.getElem?_eq_getElem hi'];rfl
  refine join fun J hJ=>?_;rw[sl_len Tryz.underlying23 (h'.ns.now (ho.hasM 1 rfl))]
  try simp only[rs]
  by_cases h0:(f.names.length:Int)=0
  ·have hn:f.names=[]:=List.eq_nil_of_length_eq_zero (by omega);simp only[decide_eq_true h0,i_t];refine c_mem ho 1 rfl (usual47_ret N w2 (hsp.le hle) (ho.hasM 1 rfl)) fun v N2 w3 l2 hv ho=>?_;have e:Fo.names f=Fo.usual:=by unfold Fo.names;rw[if_pos hn]
   exact go hJ ho l2 (by rw[e,Fo.usual_len];exact hv)
  ·have hn:f.names≠[]:=fun h=>h0 (by rw[h];rfl);simp only[decide_eq_false h0,i_f];have e:Fo.names f=f.names:=by unfold Fo.names;rw[if_neg hn]
   exact go hJ ho N.le_refl (by rw[e];exact h'.ns)
theorem rsay47_ret (f:Ft)(c:Int)(wv nv mv:Value)(M:Mem)(w:World)(hok:FtOk f)(hns:∀s∈f.names,s.length≤1000000000)(hM:M.has w)(h:FtAt M f wv nv mv) :
  RetM prog 13 #[ftV f wv nv mv,.int .i64 c] M w (fun r _=>r=.string ⟨(Fo.say f c).toArray⟩):=by
 refine retM_of hM fun K hK=>S_foliantref47_Say_ok ?_;generalize hX:Fo.say f c=X at hK;unfold Fo.say at hX;unfold S_foliantref47_Say;refine o_ftb f h (OwnS.memS hM) fun b w1 ho=>?_;rw[fa_f6,ft_mps ho 0 rfl];refine c_mem ho 1 rfl (rfind46_ret f.maps c mv M w1 (by have:=hok.ml;omega) (ho.hasM 1 rfl) h.ms) ?_;rintro _ N w2 hle rfl ho;simp only[ex];cases hf:Cm.find f.maps c with
|some x=>
  rw[hf] at hX;simp only[Option.isSome_some,i_t];exact hK _ _ N _ 1 ho rfl hle (by rw[←hX];rfl)
|none=>
  rw[hf] at hX;dsimp only at hX;simp only[Option.isSome_none,i_f];rw[fa_f5,ft_nms ho 0 rfl];have h':=h.le hle;have hnl:∀s∈Fo.names f,s.length≤1000000000:=by
   unfold Fo.names;split
   ·intro s hs;have h1:(Fo.usual.all fun s=>decide (s.length≤100))=true:=by decide +kernel
    have:=of_decide_eq_true (List.all_eq_true.1 h1 s hs);omega
   ·exact hns
  have go:∀{W:World} {N2:Mem} {v:Value} {J:List Value→World→Prop},(∀vs W,(∀_:Sg,S_foliantref47_Say_0 (.int .i64 c) (.pointer (some ⟨b,0,none⟩)) (vs.getD 0 undef) W K)→J vs W)→OwnS M.A w W [ftE b f wv nv mv,.mem N2]→N.le N2→SlA N2.A N2.w v 1 (Fo.names f).length (strsV (Fo.names f))→J [v] W:=by
   intro W N2 v J hJ ho l2 hv;refine hJ _ _ fun _=>?_;simp only[S_foliantref47_Say_0,gd];rw[fa_f1,ft_wide ho 0 rfl];have no:(f.wide=true∨c < 0∨((Fo.names f).length:Int)≤c)→K (.returned (.string ⟨#[]⟩)) W:=fun hx=>by
    rw[if_pos hx] at hX;exact hK _ _ N2 _ 1 ho rfl (hle.trans l2) (by rw[←hX])
   cases hw:f.wide with
  |true=>
    simp only[rs,g_un,i_t];exact no (.inl hw)
  |false=>
   try simp only[rs]
   by_cases a1:c < 0
   ·simp only[decide_eq_true a1,rs,g_un,i_t];exact no (.inr (.inl a1))
   simp only[decide_eq_false a1,rs];rw[sl_len Tryz.underlying23 (hv.now (ho.hasM 1 rfl))]
   try simp only[rs]
   by_cases a2:((Fo.names f).length:Int)≤c
   ·simp only[decide_eq_true a2,rs,i_t];exact no (.inr (.inr a2))
   simp only[decide_eq_false a2,rs,i_f];rw[if_neg (by rw[hw];simp;omega)] at hX;obtain⟨g,off,cap,rfl,hcc⟩:=sl_open (hv.now (ho.hasM 1 rfl)) (by omega);refine do_eq (run_ia Tryz.underlying23 (show _=some 1 by kernel_rfl) (by omega) (by omega)) |>.mpr ?_;have hi':c.toNat < (Fo.names f).length:=by omega
   rw[Nat.mul_one,l_cell nStr5 (hcc _ _ (strsV_get hi'))];refine c_mem ho 1 rfl (rsign47_ret _ N2 W (ho.hasM 1 rfl) (hnl _ (List.getElem_mem hi'))) ?_;rintro _ N3 w3 l3 rfl ho;refine hK _ _ N3 _ 1 ho rfl ((hle.trans l2).trans l3) ?_;rw[←hX,List.getD_eq_getElem?_getD,List.getElem?_eq_getElem hi'];rfl
  refine join fun J hJ=>?_;rw[sl_len Tryz.underlying23 (h'.ns.now (ho.hasM 1 rfl))]
  try simp only[rs]
  by_cases h0:(f.names.length:Int)=0
  ·have hn:f.names=[]:=List.eq_nil_of_length_eq_zero (by omega);simp only[decide_eq_true h0,i_t];refine c_mem ho 1 rfl (rusual47_ret N w2 (ho.hasM 1 rfl)) fun v N2 w3 l2 hv ho=>?_;have e:Fo.names f=Fo.usual:=by unfold Fo.names;rw[if_pos hn]
   exact go hJ ho l2 (by rw[e,Fo.usual_len];exact hv)
  ·have hn:f.names≠[]:=fun h=>h0 (by rw[h];rfl);simp only[decide_eq_false h0,i_f];have e:Fo.names f=f.names:=by unfold Fo.names;rw[if_neg hn]
   exact go hJ ho N.le_refl (by rw[e];exact h'.ns)
end
namespace Eng
theorem callsD_recoverA {P:Program}{f:FuncId}{fn:Func}{id:Nat}{o o2:Oper}{rest:Code}{args:List Value}{u:FrameMode}{w:World}{R:Ending→FrameMode→World→Prop}{n d d2:Nat}{aj al:List (Nat×List Nat)}{rs:List ResultVar}
  (hf:P.funcs[f]?=some fn) (hb:fn.body=some (.seq (.region id #[o,o2] false) rest)) (ho:o.op=.call { callee:=.builtin .recover,args:=#[],argTypes:=#[] }) (hg:o.guard=none) (hd:o.dst=some d) (hdn:Nat.blt d n=true)
  (ho2:o2.op=.assign (.tmp d)) (hg2:o2.guard=none) (hd2:o2.dst=some d2) (hdn2:Nat.blt d2 n=true)
  (hn:fn.ntmps=n) (hrs:fn.results.toList=rs) (hl:Nat.ble args.length n=true)
  (h:wpX P n aj al none rest (topD P rs (fun e w'=>R e (recM u) w')) (upd (upd (startX args) d (recV u)) d2 (recV u)) [] w) (hF:hasRF rest=false:=by kernel_rfl):CallsD P f args.toArray u w R:=by
 refine callsD_of_wpS hf hb fun c₀ cs hu=>?_;rw[hn];refine wpS_seq (wpS_region ?_);have hex:∀ρ:Operand→Value,(execOp ρ o).run P w=.ok .recover w:=by
  intro ρ;unfold execOp;rw[ho];simp[resolve,invoke,builtin,bind,pure,Sem.bind,Sem.run]
 have hrep:=start_rep (args:=args) hl;have hput:Rep n (upd (startX args) d (recV u)) (({ tmps:=args.toArray++Array.replicate (n - args.toArray.size) undef,defers:=[] }:Act).put o.dst (recV u)).tmps:=by
  rw[hd];exact Rep.put (a:={ tmps:=args.toArray++Array.replicate (n - args.toArray.size) undef,defers:=[] }) hrep (d:=some d) hdn (recV u)
 have hdef:(({ tmps:=args.toArray++Array.replicate (n - args.toArray.size) undef,defers:=[] }:Act).put o.dst (recV u)).defers=[]:=by rw[hd];rfl
 obtain⟨A1,hA1⟩:∃A,A=({ tmps:=args.toArray++Array.replicate (n - args.toArray.size) undef,defers:=[] }:Act).put o.dst (recV u):=⟨_,rfl⟩;rw[←hA1] at hput hdef;have hex2:(execOp A1.eval o2).run P w=.ok (.value (recV u)) w:=by
  rw[Rep.eval hput];unfold execOp;rw[ho2];simp[rd,upd,pure,Sem.run]
 have key:wpOpsS P #[o,o2] (Exit.thenS (rest.wpS P (bodyPostS P fn c₀ cs R)) (bodyPostS P fn c₀ cs R)) [1] A1 ({ c₀ with mode:=recM u }::cs) w:=by
  unfold wpOpsS;simp only[List.getElem?_toArray,List.getElem?_cons_succ,List.getElem?_cons_zero];rw[if_pos (by simp[Region.wanted,hg2]),hex2];simp only[Oper.upon];have hput2:Rep n (upd (upd (startX args) d (recV u)) d2 (recV u)) (A1.put o2.dst (recV u)).tmps:=by
   rw[hd2];exact Rep.put hput (d:=some d2) hdn2 (recV u)
  have hdef2:(A1.put o2.dst (recV u)).defers=[]:=by rw[hd2];exact hdef
  refine wpS_of_wp (Code.wp_mono ?_ (wpIn_wide.1 (wpX_sound rest none _ _ _ w hput2 (by rw[hdef2];exact h) hF)));rintro e a w' ⟨σ,hr,hk⟩;have hdd:∀K:Ending→World→Prop,RetD P (rvOf σ rs) w' K→∃v,(results fn a.tmps).run P w'=.ok v w'∧K (.returned v) w':=fun K hk=>by
   rw[results_eq hr,hrs];exact retX_iff hk
  generalize hds:a.defers=ds at hk;cases e<;>cases ds<;>first|(exact hk.elim;done)|skip
  ·obtain⟨v,h1,h2⟩:=hdd (fun e w'=>R e (recM u) w') hk;exact⟨hds,recM u,rfl,v,h1,h2⟩
  ·obtain⟨v,h1,h2⟩:=hdd (fun e w'=>R e (recM u) w') hk;exact⟨hds,recM u,rfl,v,h1,h2⟩
  ·exact⟨hds,recM u,rfl,hk⟩
 have e:=rec_eq c₀ cs;rw[hu] at e;show wpOpsS P #[o,o2] _ [0,1] _ (c₀::cs) w;unfold wpOpsS;simp only[List.getElem?_toArray,List.getElem?_cons_zero];rw[if_pos (by simp[Region.wanted,hg])];rw[hex];cases hrc:recoverD (c₀::cs) with
|none=>
  rw[hrc] at e;simp only[Prod.mk.injEq] at e;simp only;rw[e.1,e.2,←hA1];exact key
|some x=>
  obtain⟨v,cs'⟩:=x;rw[hrc] at e;simp only[Prod.mk.injEq] at e;simp only;rw[e.1,e.2,←hA1];exact key
end Eng
section
open Eng
def S_font_Read_fn1_1 (w:World)(K:Ending→World→Prop):Prop:=
 K (.returned (.tuple #[])) w
def S_font_Read_fn1_0 (t0 t1 t3:Value)(w:World)(K:Ending→World→Prop):Prop:=
 DrawX w (fun w=>
 (DoX prog (mBuild 26 #[]) w (pk K) fun t16 w=>
 (DoX prog (mFA 73 t3 0) w (pk K) fun t17 w=>
 (DoX prog (mLoad 30 t17) w (pk K) fun t18 w=>
 DoX prog (mStore 26 t0 t16) w (pk K) fun _ w=>
 DoX prog (mStore 30 t1 t18) w (pk K) fun _ w=>
 S_font_Read_fn1_1 w K)∧(DoX prog (mStore 26 t0 t16) w (pk K) fun _ w=>
 DoX prog (mLoad 30 t17) w (pk K) fun t18_1 w=>
 DoX prog (mStore 30 t1 t18_1) w (pk K) fun _ w=>
 S_font_Read_fn1_1 w K))∧(DoX prog (mStore 26 t0 t16) w (pk K) fun _ w=>
 DoX prog (mFA 73 t3 0) w (pk K) fun t17_1 w=>
 DoX prog (mLoad 30 t17_1) w (pk K) fun t18_2 w=>
 DoX prog (mStore 30 t1 t18_2) w (pk K) fun _ w=>
 S_font_Read_fn1_1 w K))∧(DoX prog (mFA 73 t3 0) w (pk K) fun t17_2 w=>
 (DoX prog (mBuild 26 #[]) w (pk K) fun t16_1 w=>
 (DoX prog (mLoad 30 t17_2) w (pk K) fun t18_3 w=>
 DoX prog (mStore 26 t0 t16_1) w (pk K) fun _ w=>
 DoX prog (mStore 30 t1 t18_3) w (pk K) fun _ w=>
 S_font_Read_fn1_1 w K)∧(DoX prog (mStore 26 t0 t16_1) w (pk K) fun _ w=>
 DoX prog (mLoad 30 t17_2) w (pk K) fun t18_4 w=>
 DoX prog (mStore 30 t1 t18_4) w (pk K) fun _ w=>
 S_font_Read_fn1_1 w K))∧(DoX prog (mLoad 30 t17_2) w (pk K) fun t18_5 w=>
 DoX prog (mBuild 26 #[]) w (pk K) fun t16_2 w=>
 DoX prog (mStore 26 t0 t16_2) w (pk K) fun _ w=>
 DoX prog (mStore 30 t1 t18_5) w (pk K) fun _ w=>
 S_font_Read_fn1_1 w K)))
def S_font_Read_fn1 (t0 t1 r:Value)(w:World)(K:Ending→World→Prop):Prop:=
 DoX prog (mEq .neq 20 (.tmp 6) (.const .nilIface) r .nilIface) w (pk K) fun t7 w=>
 IfX t7 (DoX prog (mTA r 20 73 true) w (pk K) fun t10 w=>
 DoX prog (mExt t10 0) w (pk K) fun t11 w=>
 DoX prog (mExt t10 1) w (pk K) fun t12 w=>
 DoX prog (mAlloc 73) w (pk K) fun t3 w=>
 DoX prog (mStore 73 t3 t11) w (pk K) fun _ w=>
 JoinX (fun J1=>
 DoX prog (mUn .not t12) w (pk K) fun t14 w=>
 IfX t14 (DoX prog (mPanic r) w (pk K) fun _ w=>
 J1 [] w) (J1 [] w)) (fun vs1 w=>∀_:Sg,S_font_Read_fn1_0 t0 t1 t3 w K)) (K (.returned (.tuple #[])) w)
theorem S_font_Read_fn1_eq (t0 t1 r:Value)(w:World)(K:Ending→World→Prop):wpX prog 19 [(5,[])] [] none (sndOf (bodyOf Tryz.f48)) (topD prog [] K) (upd (upd (startX [t0,t1]) 5 r) 2 r) [] w=S_font_Read_fn1 t0 t1 r w K:=by kernel_rfl
theorem S_font_Read_fn1_dok {t0 t1:Value}{u:FrameMode}{w:World}{R:Ending→FrameMode→World→Prop}(h:S_font_Read_fn1 t0 t1 (recV u) w (fun e w=>R e (recM u) w)):CallsD prog 48 #[t0,t1] u w R:=
 callsD_recoverA Tryz.func48 rfl rfl rfl rfl rfl rfl rfl rfl rfl rfl rfl rfl (Eq.mpr (S_font_Read_fn1_eq t0 t1 (recV u) w _) h)
def S_font_Make_fn1_0 (t0 t1 t2 t4:Value)(w:World)(K:Ending→World→Prop):Prop:=
 HeldX w (fun S2 w=>
 HDo prog (fun _=>True) (mBuild 50 #[]) fun t17=>
 HDo prog (fun _=>True) (mBuild 48 #[]) fun t18=>
 HDo prog (fun _=>True) (mFA 73 t4 0) fun t19=>
 HDo prog S2 (mLoad 30 t19) fun t20=>
 DoX prog (mStore 50 t0 t17) w (pm1 (pm1 (pm1 (pm1 (pk K))))) fun _ w=>
 S2 w∧(DoX prog (mStore 48 t1 t18) w (pm1 (pm1 (pm1 (pm1 (pk K))))) fun _ w=>
 S2 w∧(DoX prog (mStore 30 t2 t20) w (pm1 (pm1 (pm1 (pm1 (pk K))))) fun _ w=>
 (K (.returned (.tuple #[])) w))))
def S_font_Make_fn1 (t0 t1 t2 r:Value)(w:World)(K:Ending→World→Prop):Prop:=
 DoX prog (mEq .neq 20 (.tmp 7) (.const .nilIface) r .nilIface) w (pk K) fun t8 w=>
 IfX t8 (DoX prog (mTA r 20 73 true) w (pk K) fun t11 w=>
 DoX prog (mExt t11 0) w (pk K) fun t12 w=>
 DoX prog (mExt t11 1) w (pk K) fun t13 w=>
 DoX prog (mAlloc 73) w (pk K) fun t4 w=>
 DoX prog (mStore 73 t4 t12) w (pk K) fun _ w=>
 JoinX (fun J1=>
 DoX prog (mUn .not t13) w (pk K) fun t15 w=>
 IfX t15 (DoX prog (mPanic r) w (pk K) fun _ w=>
 J1 [] w) (J1 [] w)) (fun vs1 w=>∀_:Sg,S_font_Make_fn1_0 t0 t1 t2 t4 w K)) (K (.returned (.tuple #[])) w)
theorem S_font_Make_fn1_eq (t0 t1 t2 r:Value)(w:World)(K:Ending→World→Prop):wpX prog 21 [(5,[])] [] none (sndOf (bodyOf Tryz.f38)) (topD prog [] K) (upd (upd (startX [t0,t1,t2]) 6 r) 3 r) [] w=S_font_Make_fn1 t0 t1 t2 r w K:=by kernel_rfl
theorem S_font_Make_fn1_dok {t0 t1 t2:Value}{u:FrameMode}{w:World}{R:Ending→FrameMode→World→Prop}(h:S_font_Make_fn1 t0 t1 t2 (recV u) w (fun e w=>R e (recM u) w)):CallsD prog 38 #[t0,t1,t2] u w R:=
 callsD_recoverA Tryz.func38 rfl rfl rfl rfl rfl rfl rfl rfl rfl rfl rfl rfl (Eq.mpr (S_font_Make_fn1_eq t0 t1 t2 (recV u) w _) h)
end
section
open Eng
def S_value_Ref (t0 t1:Value)(w:World)(K:Ending→World→Prop):Prop:=
 DoX prog (mAlloc 48) w (pk K) fun t4 w=>
 DoX prog (mBuild 48 #[(0,(.int .i64 8)),(1,t0),(2,t1)]) w (pk K) fun t7 w=>
 DoX prog (mStore 48 t4 t7) w (pk K) fun _ w=>
 RetX prog [.cell t4 48] w K
theorem S_value_Ref_eq (t0 t1:Value)(w:World)(K:Ending→World→Prop):wpX prog 8 [] [] none (bodyOf Tryz.f77) (topQ prog [.cell 4 48] K) (startX [t0,t1]) [] w=S_value_Ref t0 t1 w K:=by kernel_rfl
theorem S_value_Ref_ok {t0 t1:Value}{w:World}{K:Ending→World→Prop}(h:S_value_Ref t0 t1 w K):Calls prog 77 #[t0,t1] w K:=
 calls_of_wpX Tryz.func77 rfl rfl rfl rfl (Eq.mpr (S_value_Ref_eq t0 t1 w K) h)
end
section
open Eng Go.RowKit
abbrev mkE47 (b:Nat)(d:Dc)(vi tk tc:Value):Ent:=.cells b (dcC d vi tk tc) 77
theorem run_nil47 (a:Addr)(W:World):(mNil (.pointer (some a))).run prog W=.ok (.value (.pointer (some a))) W:=by simp[mNil,execOp]
theorem run_mkdoc {W:World}{b:Nat}{d:Dc}{vi vk vc:Value}(h:(mkE47 b d vi vk vc).is W):(mLoad 50 (.pointer (some ⟨b,0,none⟩))).run prog W=.ok (.value (dcV d vi vk vc)) W:=
 run_load_at (AtV.agg aggDc (cs:=dcC d vi vk vc) rfl fun j v hj=>by rw[Nat.zero_add];exact cells_cell (T:=77) h hj)
theorem run_ob47 {W:World}{b:Nat}{o:Ob}{vk vc:Value}(h:(obE b o vk vc).is W):(mLoad 48 (.pointer (some ⟨b,0,none⟩))).run prog W=.ok (.value (obV o vk vc)) W:=
 run_load_at (AtV.agg aggOb (cs:=obC o vk vc) rfl fun j v hj=>by rw[Nat.zero_add];exact cells_cell (T:=48) h hj)
theorem vref47_ret (n g:Int)(w:World):Ret prog 77 #[.int .i64 n,.int .i64 g] w (obR (ob1 8 n g []) nilS nilS w):=by
 refine ret_of fun K hK=>S_value_Ref_ok ?_;unfold S_value_Ref;refine o_oba (Own.start w) fun b w1 ho=>?_;have hb:∀{PK:PKT} {K:VWP},DoX prog (mBuild 48 #[(0,(.int .i64 8)),(1,.int .i64 n),(2,.int .i64 g)]) w1 PK K=K (obV (ob1 8 n g []) nilS nilS) w1:=do_eq (by kernel_rfl);rw[hb];refine ob_put 0 rfl rfl ho rfl fun w2 ho=>?_;exact ret_ob ho (hK _ _ ⟨rfl,ho.done⟩)
structure AddOk (d:Dc) (o:Ob):Prop where
 ok:Dk.Ok d
 len:d.items.length < 10000000000
 wt:o.wt≤1000000000
 chk:Dk.check d=0
 next:Dk.next d≤8191
 low:∀i∈d.items,-1000000≤i.num
 put:(Dk.put d ⟨Dk.next d,0,o⟩).2=0
def Dk.added (d:Dc)(o:Ob):Dc:=(Dk.put d ⟨Dk.next d,0,o⟩).1
section
variable {w:World}{PK:PKT}{K:VWP}{S:Nat→Prop}{w0:World}{L:List Ent}
theorem c_add47 {d:Dc}{o:Ob}{b:Nat}{vi tk tc vk vc:Value}{ics:List Value}{N:Mem}(ha:AddOk d o)(ho:OwnS S w0 w (mkE47 b d vi tk tc::.mem N::L))(hda:DocAt N.A N.w d vi tk tc ics)(hv:OV N.A N.w (obV o vk vc) o)
  (k:∀N2 vi' tk' tc' ics' W,N.le N2→DocAt N2.A N2.w (Dk.added d o) vi' tk' tc' ics'→OwnS S w0 W (mkE47 b (Dk.added d o) vi' tk' tc'::.mem N2::L)→K (obV (.mk 8 (Dk.next d) 0 [] [] []) nilS nilS) W) :
  CallX prog 43 #[.pointer (some ⟨b,0,none⟩),obV o vk vc,.int .i64 0] w PK K:=by
 refine⟨S_font_maker_add_ok ?_⟩;unfold S_font_maker_add;refine o_obb o hv.oneK hv.oneC ho fun b4 w1 ho=>?_;refine o_oba ho fun b6 w2 ho=>?_;refine c_need47 rfl ?_;have ho:OwnS S w0 w2 (obE b6 ob0 nilS nilS::obE b4 o vk vc::mkE47 b d vi tk tc::.mem N::L):=ho;have ho:=ho.drew;have call:∀{W:World} {L':List Ent} {PK':PKT} {K':VWP} (j:Nat),OwnS S w0 W L'→L'[j]?=some (.mem N)→(∀N2 vi' tk' tc' ics' W',N.le N2→DocAt N2.A N2.w (Dk.added d o) vi' tk' tc' ics'→OwnS S w0 W' (L'.set j (.mem N2))→K' (.tuple #[dcV (Dk.added d o) vi' tk' tc',.int .i64 (Dk.next d),.int .i64 0]) W') →
   CallX prog 76 #[dcV d vi tk tc,obV o vk vc] W PK' K':=by
  intro W L' PK' K' j ho hj k;refine c_mem ho j hj (dadd_ret d o _ _ N W ha.ok ha.len ha.wt ha.chk ha.next ha.low ha.put (ho.hasM j hj) ⟨vi,tk,tc,ics,rfl,hda⟩ hv) ?_;rintro _ N2 W' l2 ⟨y,rfl,yi,yk,yc,ycs,rfl,hya⟩ ho;exact k N2 yi yk yc ycs W' l2 hya ho
 have fin:∀{W:World} {N2:Mem} {b7:Nat} {vi' tk' tc':Value} {ics':List Value},N.le N2→DocAt N2.A N2.w (Dk.added d o) vi' tk' tc' ics'→OwnS S w0 W (dcE b7 (Dk.added d o) vi' tk' tc'::obE b6 ob0 nilS nilS::obE b4 o vk vc::mkE47 b d vi tk tc::.mem N2::L) →
   S_font_maker_add_0 (.pointer (some ⟨b,0,none⟩)) (.int .i64 0) (.pointer (some ⟨b6,0,none⟩)) (.pointer (some ⟨b7,0,none⟩)) (.int .i64 (Dk.next d)) W (Cont K PK):=by
  intro W N2 b7 vi' tk' tc' ics' l2 hda' ho;unfold S_font_maker_add_0;refine c_need47 rfl ?_;rw[dc_v ho 0 rfl,m_nil,f_addr (o:=0) (T:=77) (by kernel_rfl)];refine o_put 3 ho rfl (new:=dcC (Dk.added d o) vi' tk' tc') szDc (dcC_one _ hda'.items.one hda'.trailer.oneK hda'.trailer.oneC) rfl fun w5 ho=>?_;refine c_below ho (R:=fun v=>v=obV (ob1 8 (Dk.next d) 0 []) nilS nilS) (vref47_ret (Dk.next d) 0 w5) ?_;rintro _ w6 rfl ho;refine ob_put 1 rfl rfl ho rfl fun w7 ho=>?_;refine ret_v1 (rv_cell (ho.agg 1 rfl aggOb)) ?_;exact k N2 vi' tk' tc' ics' w7 l2 hda' ho.tail.tail.tail
 refine⟨fun W=>(mkE47 b d vi tk tc).is W∧(obE b4 o vk vc).is W,⟨ho.at_ 2 rfl,ho.at_ 1 rfl⟩,?_⟩;refine hd_pure _ (fun _=>run_nil47 _ _) (hd_pure _ (fun _=>run_fa (o:=0) (by kernel_rfl)) (hd_do _ (fun W h=>run_mkdoc h.1) (hd_do _ (fun W h=>run_ob47 h.2) ⟨?_,?_⟩)))
 ·refine call 3 ho rfl fun N2 vi' tk' tc' ics' W' l2 hda' ho=>hd_pure _ (fun _=>rfl) (hd_pure _ (fun _=>rfl) (hd_pure _ (fun _=>rfl) ?_));refine o_dca ho fun b7 w5 ho=>⟨⟨ho.at_ 3 rfl,ho.at_ 2 rfl⟩,?_⟩;refine dc_put 0 (d':=Dk.added d o) hda'.items.one hda'.trailer.oneK hda'.trailer.oneC ho rfl fun w6 ho=>?_;exact fin l2 hda' ho
 ·refine o_dca ho fun b7 w5 ho=>⟨⟨ho.at_ 3 rfl,ho.at_ 2 rfl⟩,?_⟩;refine call 4 ho rfl fun N2 vi' tk' tc' ics' W' l2 hda' ho=>hd_pure _ (fun _=>rfl) (hd_pure _ (fun _=>rfl) (hd_pure _ (fun _=>rfl) ?_));refine dc_put 0 (d':=Dk.added d o) hda'.items.one hda'.trailer.oneK hda'.trailer.oneC ho rfl fun w6 ho=>?_;exact fin l2 hda' ho
theorem ft_v (ho:OwnS S w0 w L)(i:Nat){b:Nat}{f:Ft}{wv nv mv:Value}(hi:L[i]?=some (ftE b f wv nv mv)):DoX prog (mLoad 26 (.pointer (some ⟨b,0,none⟩))) w PK K=K (ftV f wv nv mv) w:=l_at (ho.agg i hi aggFt)
theorem m_mk47 (d:Dc){A:Nat→Prop}{W0:World}{vi tk tc:Value}{ics:List Value}(hda:DocAt A W0 d vi tk tc ics):DoX prog (mBuild 77 #[(0,dcV d vi tk tc)]) w PK K=K (dcV d vi tk tc) w:=by
 obtain⟨a1,c1,rfl,_⟩:=hda.items.form;obtain⟨_,h2⟩:=hda.trailer.slices;obtain⟨a2,c2,rfl,_⟩:=h2.keys.form;obtain⟨a3,c3,rfl,_⟩:=h2.kids.form;exact do_eq (by kernel_rfl)
theorem o_mkb (d:Dc){A:Nat→Prop}{W0:World}{vi tk tc:Value}{ics:List Value}(hda:DocAt A W0 d vi tk tc ics)(ho:OwnS S w0 w L)(k:∀b w',OwnS S w0 w' (mkE47 b d vi tk tc::L)→K (.pointer (some ⟨b,0,none⟩)) w'):DoX prog (mBox 77 (dcV d vi tk tc)) w PK K:=by
 obtain⟨a1,c1,rfl,_⟩:=hda.items.form;obtain⟨_,h2⟩:=hda.trailer.slices;obtain⟨a2,c2,rfl,_⟩:=h2.keys.form;obtain⟨a3,c3,rfl,_⟩:=h2.kids.form;exact o_new (fun b=>.pointer (some ⟨b,0,none⟩)) (dcC d _ _ _) 77 (fun _=>by kernel_rfl) ho k
end
end
section
open Eng Go.RowKit
theorem fmake1_plain:plainB prog 38=true:=by kernel_rfl
theorem Fo.check_may {f:Ft}(h:Fo.check f=0):Fo.may f=true:=by
 unfold Fo.check at h;split at h
 ·cases h
 ·rename_i h1;simpa using h1
theorem fmake47_ret (d:Dc)(f:Ft)(dv wv nv mv:Value)(M:Mem)(w:World)(hut:UtM M)(hok:FtOk f)(hw:f.wide=false)(hn:f.names=[])(hm:f.maps=[])(hc:Fo.check f=0)(ha:AddOk d (Fo.mkD (Fo.narrowP f)))(hwt:Ob.wts (Fo.flatP (Fo.narrowP f))≤1000000000)
  (hM:M.has w) (hdv:DV M.A M.w dv d) (h:FtAt M f wv nv mv) :
  RetM prog 21 #[dv,ftV f wv nv mv] M w (fun r N=>∃dv',r=.tuple #[dv',obV (.mk 8 (Dk.next d) 0 [] [] []) nilS nilS,.int .i64 0]∧DV N.A N.w dv' (Dk.added d (Fo.mkD (Fo.narrowP f)))):=by
 have hg:=Fo.good_of (Fo.check_may hc);have hD:=Fo.mkD_dict (Fo.narrow_ok hg hw);have hdv0:=hdv;obtain⟨vi,tk,tc,cs,rfl,hda⟩:=hdv;refine retM_of hM fun K hK=>S_font_Make_ok ?_;unfold S_font_Make;refine o_dcb d hda.items.one hda.trailer.oneK hda.trailer.oneC (OwnS.memS hM) fun b2 w1 ho=>?_;refine o_ftb f h ho fun b3 w2 ho=>?_;refine o_dca ho fun b4 w3 ho=>?_;refine o_oba ho fun b5 w4 ho=>?_;refine o_new (fun b=>.pointer (some ⟨b,0,none⟩)) [.int .i64 0] 30 (fun _=>by kernel_rfl) ho fun b6 w5 ho=>?_;have ho:OwnS M.A w w5 [.cells b6 [.int .i64 0] 30,obE b5 ob0 nilS nilS,dcE b4 Dk.dc0 nilS nilS nilS,ftE b3 f wv nv mv,dcE b2 d vi tk tc,.mem M]:=ho;rw[dc_v ho 4 rfl];refine c_mem ho 5 rfl (dcheck_ret d _ M w5 ha.ok (ho.hasM 5 rfl) hdv0) ?_;rintro _ N w6 l1 rfl ho;simp only[ha.chk,n_err,show decide ((0:Int)≠0)=false from rfl,i_f];rw[ft_v ho 3 rfl];refine c_mem ho 5 rfl (fcheck47_ret f wv nv mv N w6 (hut.le l1) hok (ho.hasM 5 rfl) (h.le l1)) ?_;rintro _ N2 w7 l2 rfl ho;simp only[hc,n_err,show decide ((0:Int)≠0)=false from rfl,i_f];rw[m_func];refine⟨_,rfl,?_⟩;have hle:=l1.trans l2;rw[dc_v ho 4 rfl,m_mk47 d hda];refine o_mkb d hda ho fun b9 w8 ho=>?_;have ho:OwnS M.A w w8 [mkE47 b9 d vi tk tc,.cells b6 [.int .i64 0] 30,obE b5 ob0 nilS nilS,dcE b4 Dk.dc0 nilS nilS nilS,ftE b3 f wv nv mv,dcE b2 d vi tk tc,.mem N2]:=ho;refine join fun J hJ=>?_;rw[fa_f1,ft_wide ho 4 rfl,hw];simp only[i_f];rw[ft_v ho 4 rfl];refine c_mem ho 6 rfl (narrowly47_ret f wv nv mv N2 w8 hg hok hn (ho.hasM 6 rfl) (h.le hle)) ?_;rintro u N3 w9 l3 ⟨vs,hs,hvs⟩ ho;have hle:=hle.trans l3;refine AtX.mk rfl (hJ _ _ fun _=>?_);unfold S_font_Make_0;simp only[gd];refine join fun J2 hJ2=>?_;have hms:=(h.le hle).ms;rw[hm] at hms;rw[fa_f6,ft_mps ho 4 rfl,sl_len Tryz.underlying24 (hms.now (ho.hasM 6 rfl))]
 try simp only[rs]
 rw[decide_eq_false (show ¬(0:Int) < ((List.length ([]:List Cm.Mp):Nat):Int) by decide)]
 try simp only[i_f]
 refine AtX.mk rfl (hJ2 _ _ fun _=>?_);unfold S_font_Make_1;simp only[gd];refine c_mem ho 6 rfl (dict47_ret (Fo.narrowA f) u vs N3 w9 (by rw[Fo.narrow_ob hn];exact hwt) (ho.hasM 6 rfl) hs hvs) ?_;rintro _ N4 w10 l4 ⟨y,rfl,hy⟩ ho;rw[Fo.narrow_ob hn,hD] at hy ⊢;obtain⟨yk,yc,ycs,rfl,hya⟩:=hy.open;have hle:=hle.trans l4;simp only[errV,ex];have ho:OwnS M.A w w10 (mkE47 b9 d vi tk tc::([.cells b6 [.int .i64 0] 30,obE b5 ob0 nilS nilS,dcE b4 Dk.dc0 nilS nilS nilS,ftE b3 f wv nv mv,dcE b2 d vi tk tc]++[.mem N4])):=ho;have ho:=ho.perm (List.Perm.cons _ (List.perm_append_singleton _ _));refine c_add47 ha ho (hda.le hle) hya.ov fun N5 vi' tk' tc' ics' w11 l5 hda' ho=>?_;refine ob_put 3 rfl rfl ho rfl fun w12 ho=>?_;have ho:OwnS M.A w w12 [mkE47 b9 (Dk.added d (Fo.mkD (Fo.narrowP f))) vi' tk' tc',.mem N5,.cells b6 [.int .i64 0] 30,obE b5 (.mk 8 (Dk.next d) 0 [] [] []) nilS nilS,dcE b4 Dk.dc0 nilS nilS nilS,ftE b3 f wv nv mv,dcE b2 d vi tk tc]:=ho;have ho:=ho.drew;refine⟨fun W=>(mkE47 b9 (Dk.added d (Fo.mkD (Fo.narrowP f))) vi' tk' tc').is W∧(obE b5 (.mk 8 (Dk.next d) 0 [] [] []) nilS nilS).is W,⟨ho.at_ 0 rfl,ho.at_ 3 rfl⟩,?_⟩;refine hd_pure _ (fun _=>run_nil47 _ _) (hd_pure _ (fun _=>run_fa (o:=0) (by kernel_rfl)) (hd_do _ (fun W h=>run_mkdoc h.1) (hd_do _ (fun W h=>run_ob47 h.2) ?_)));refine dc_put 4 (d':=Dk.added d (Fo.mkD (Fo.narrowP f))) hda'.items.one hda'.trailer.oneK hda'.trailer.oneC ho rfl fun w13 ho=>⟨⟨ho.at_ 0 rfl,ho.at_ 3 rfl⟩,?_⟩;refine ob_put 3 rfl rfl ho rfl fun w14 ho=>?_;refine o_store 2 ho rfl (by kernel_rfl) rfl (by simp) fun w15 ho=>?_;refine leave_fn (by simp) fmake1_plain (S_font_Make_fn1_dok ?_);simp only[S_font_Make_fn1,recV,recM,Eng.n_nil Tryz.underlying20,rs,i_f];refine ret_v3 (rv_cell (ho.agg 4 rfl aggDc)) (rv_cell (ho.agg 3 rfl aggOb)) (rv_cell (by unfold AtV;exact run_loadVar_cell nErr5 (ho.cell 2 rfl 0 rfl))) ?_;exact hK _ _ N5 _ 1 ho rfl (hle.trans l5) ⟨_,rfl,vi',tk',tc',ics',rfl,hda'⟩
end
section
open Eng Go.RowKit
namespace Fo
def elems (d:Dc)(x:Ob):List Ob:=if x.k=0 then [] else x.kids.map (Dk.follow d)
def missOf (d:Dc)(x:Ob):Int:=if (val d x kDesc).k=7 then orI (val d (val d x kDesc) kMiss) 0 else 0
def readF (d:Dc)(x:Ob)(name:List UInt8):Ft:=⟨name,false,orI (val d x kFirst) 0,(elems d (val d x kWid)).map Ob.n,missOf d x,[],[]⟩
structure Simple (d:Dc) (x:Ob):Prop where
 ok:Dk.Ok d
 wt:x.wt≤100000000
 first:(val d x kFirst).k=0∨within (val d x kFirst) 255
 wid:(val d x kWid).k=0∨(val d x kWid).k=6
 widw:(val d x kWid).wt≤1000000000
 ws:∀o∈elems d (val d x kWid),within o 100000
 wl:(elems d (val d x kWid)).length≤100000000
 descw:(val d x kDesc).wt≤1000000000
 miss:(val d x kDesc).k=7→(val d (val d x kDesc) kMiss).k=0∨within (val d (val d x kDesc) kMiss) 100000
 enc:(val d x kEnc).k=0
end Fo
theorem run_rd47 {W:World}{b:Nat}{d:Dc}{o:Ob}{vi tk tc vk vc:Value}(h:(rdE b d vi tk tc o vk vc).is W):(mLoad 93 (.pointer (some ⟨b,0,none⟩))).run prog W=.ok (.value (rdV d vi tk tc o vk vc)) W:=
 run_load_at (AtV.agg aggRd (cs:=rdC d vi tk tc o vk vc) rfl fun j v hj=>by rw[Nat.zero_add];exact cells_cell (T:=93) h hj)
theorem elI64:elB prog 2 1 8=true:=by kernel_rfl
section
variable {w:World}{PK PK2:PKT}{K:VWP}{S:Nat→Prop}{w0:World}{L:List Ent}
theorem c_simple47 {d:Dc}{x:Ob}{vi tk tc xk xc:Value}{ics:List Value}{N:Mem}{bf:Nat}(name:List UInt8)(hs:Fo.Simple d x)(ho:OwnS S w0 w (ftE bf ⟨name,false,0,[],0,[],[]⟩ nilS nilS nilS::.mem N::L))(hda:DocAt N.A N.w d vi tk tc ics)(hx:OV N.A N.w (obV x xk xc) x)
  (k:∀N2 wv W,N.le N2→SlA N2.A N2.w wv 1 (Fo.readF d x name).widths.length (intsW (Fo.readF d x name).widths)→OwnS S w0 W (ftE bf (Fo.readF d x name) wv nilS nilS::.mem N2::L)→K (.tuple #[]) W) :
  CallX prog 87 #[rdV d vi tk tc x xk xc,.pointer (some ⟨bf,0,none⟩)] w PK K:=by
 refine⟨S_font_reader_simple_ok ?_⟩;unfold S_font_reader_simple;refine o_rdb d x hda hx ho fun b2 w1 ho=>?_;rw[rd_v ho 0 rfl];refine c_mem ho 2 rfl (at47_ret d x Fo.kFirst N w1 hs.ok (by have:=hs.wt;omega) (ho.hasM 2 rfl) hda hx) ?_;intro y N1 w2 l1 hy ho;obtain⟨yk,yc,_,rfl,hya⟩:=hy.open;refine c_below ho (R:=fun v=>v=.int .i64 (Fo.orI (Fo.val d x Fo.kFirst) 0)) (or47_ret _ hya.keys.one hya.kids.one 255 0 w2 hs.first) ?_;rintro _ w3 rfl ho;rw[m_nil,fa_f2];refine o_store 1 ho rfl (by kernel_rfl) rfl (by simp[ftC]) fun w4 ho=>?_;generalize hfi:Fo.orI (Fo.val d x Fo.kFirst) 0=fi at *;have ho:OwnS S w0 w4 (rdE b2 d vi tk tc x xk xc::ftE bf ⟨name,false,fi,[],0,[],[]⟩ nilS nilS nilS::.mem N1::L):=ho;have ho:=ho.drew;refine⟨fun W=>(rdE b2 d vi tk tc x xk xc).is W,ho.at_ 0 rfl,hd_do _ (fun W h=>run_rd47 h) (hd_do _ (fun W h=>run_rd47 h) ?_)⟩;refine c_mem ho 2 rfl (at47_ret d x Fo.kWid N1 _ hs.ok (by have:=hs.wt;omega) (ho.hasM 2 rfl) (hda.le l1) (hx.le l1)) ?_;intro z N2 w5 l2 hz ho;refine⟨ho.at_ 0 rfl,?_⟩;obtain⟨zk,zc,_,rfl,hza⟩:=hz.open;have h12:=l1.trans l2;refine c_mem ho 2 rfl (kids47_ret d x (Fo.val d x Fo.kWid) N2 w5 hs.ok hs.wid hs.widw (ho.hasM 2 rfl) (hda.le h12) (hx.le h12) hza.ov) ?_;rintro u N3 w6 l3 ⟨cs,hcs,hos⟩ ho;refine⟨ho.at_ 0 rfl,?_⟩;have h13:=h12.trans l3;have hcs:SlA N3.A N3.w u 6 (Fo.elems d (Fo.val d x Fo.kWid)).length cs:=hcs;have hos:OVs N3.A N3.w cs (Fo.elems d (Fo.val d x Fo.kWid)):=hos;obtain⟨ua,uc,rfl,_⟩:=hcs.form;refine hd_pure (.int .i64 ((Fo.elems d (Fo.val d x Fo.kWid)).length:Int)) (fun W=>by simp[mB,builtin,Builtin.len_,run_underlying Tryz.underlying46,goInt]) ?_;have hws:=hs.ws;have hwl:=hs.wl;have hrw:(Fo.readF d x name).widths=(Fo.elems d (Fo.val d x Fo.kWid)).map Ob.n:=rfl;have hrf:Fo.readF d x name=⟨name,false,fi,(Fo.elems d (Fo.val d x Fo.kWid)).map Ob.n,Fo.missOf d x,[],[]⟩:=by rw[←hfi];rfl
 rw[hrf] at k;generalize Fo.elems d (Fo.val d x Fo.kWid)=es at *;have ho:=OwnS.nilU ho 2 1;refine loop (fun vs W=>∃(i:Nat) (wv:Value),vs=[.int .i64 (i:Int)]∧i≤es.length∧OwnS S w0 W (.urow 2 1 wv i (intsW ((es.take i).map Ob.n))::rdE b2 d vi tk tc x xk xc::ftE bf ⟨name,false,fi,(es.take i).map Ob.n,0,[],[]⟩ wv nilS nilS::.mem N3::L)) (fun vs _=>es.length - n0 vs) ⟨0,nilS,rfl,by omega,ho⟩ ?_;clear ho;rintro vs w7 ⟨i,wv,rfl,hi,ho⟩ _;simp only[S_font_reader_simple_0,gd,rs];by_cases hlt:(i:Int) < (es.length:Int)
 ·simp only[decide_eq_true hlt,i_t];have hi':i < es.length:=by omega
  obtain⟨b,off,ek,ec,hia,hov,hcell⟩:=kids47F hcs hos hi';have hM3:=ho.hasM 3 rfl;rw[do_eq (hia w7),do_eq (run_load_at (AtV.agg aggOb (cs:=obC es[i] ek ec) rfl fun j v hj=>hcell w7 hM3 j v hj))];refine o_oba ho fun b5 w8 ho=>?_;refine ob_put 0 hov.oneK hov.oneC ho rfl fun w9 ho=>?_;have ho:OwnS S w0 w9 (obE b5 es[i] ek ec::.urow 2 1 wv i (intsW ((es.take i).map Ob.n))::rdE b2 d vi tk tc x xk xc::ftE bf ⟨name,false,fi,(es.take i).map Ob.n,0,[],[]⟩ wv nilS nilS::.mem N3::L):=ho;have ho:=ho.drew;refine⟨fun W=>(ftE bf ⟨name,false,fi,(es.take i).map Ob.n,0,[],[]⟩ wv nilS nilS).is W∧(obE b5 es[i] ek ec).is W,⟨ho.at_ 3 rfl,ho.at_ 0 rfl⟩,?_⟩;refine hd_pure _ (fun _=>run_nil47 _ _) (hd_pure _ (fun _=>run_fa (o:=3) (by kernel_rfl)) (hd_do _ (fun W h=>run_load_cell nSlI64 (cells_cell (T:=26) h.1 (i:=3) rfl)) (hd_do _ (fun W h=>run_ob47 h.2) ?_)));refine c_below ho (R:=fun v=>v=.int .i64 es[i].n) (number47w_ret es[i] hov.oneK hov.oneC 100000 _ (hws _ (List.getElem_mem hi'))) ?_;rintro _ w10 rfl ho;refine⟨⟨ho.at_ 3 rfl,ho.at_ 0 rfl⟩,?_⟩;refine o_new (fun b=>.slice (some ⟨b,0,none⟩) 1 1) (intsW [es[i].n]) 2 (fun _=>by kernel_rfl) ho fun b6 w11 ho=>⟨⟨ho.at_ 4 rfl,ho.at_ 1 rfl⟩,?_⟩;refine o_appendU 2 Tryz.underlying22 elI64 (by decide) ho rfl (ho.sl 0 rfl 1 1 1 rfl) intsW_one (by omega) (by omega) fun wv' w12 ho=>⟨⟨ho.at_ 4 rfl,ho.at_ 1 rfl⟩,?_⟩;refine hd_pure _ (fun _=>run_nil47 _ _) (hd_pure _ (fun _=>run_fa (o:=3) (by kernel_rfl)) ?_);refine o_store 4 ho rfl (by kernel_rfl) (urow_one (ho.at_ 2 rfl)) (by simp[ftC]) fun w13 ho=>?_
  try simp only[rs]
  rw[wrap64_id (by omega) (by omega)];refine nextX ⟨i+1,wv',rfl,by omega,?_⟩ (by simp[n0,RowKit.intOf];omega);have e:intsW ((es.take (i+1)).map Ob.n)=intsW ((es.take i).map Ob.n)++intsW [es[i].n]:=by
   rw[List.take_succ_eq_append_getElem hi',List.map_append];unfold intsW;rw[List.map_append];rfl
  rw[e];exact ho.tail.tail
 simp only[decide_eq_false hlt,i_f];have:i=es.length:=by omega
 subst this;rw[List.take_length] at ho;obtain⟨N4,l4,hs4,ho⟩:=OwnS.freezeU ho 2 rfl;have h14:=h13.trans l4;have ho:OwnS S w0 w7 (rdE b2 d vi tk tc x xk xc::ftE bf ⟨name,false,fi,es.map Ob.n,0,[],[]⟩ wv nilS nilS::.mem N4::L):=ho;refine joinF (fun vs W=>∃N5,N4.le N5∧OwnS S w0 W (rdE b2 d vi tk tc x xk xc::ftE bf ⟨name,false,fi,es.map Ob.n,Fo.missOf d x,[],[]⟩ wv nilS nilS::.mem N5::L)) (fun J hJ=>?_) ?_
 ·rw[rd_v ho 0 rfl];refine c_mem ho 2 rfl (at47_ret d x Fo.kDesc N4 w7 hs.ok (by have:=hs.wt;omega) (ho.hasM 2 rfl) (hda.le h14) (hx.le h14)) ?_;intro y N5 w8 l5 hy ho;obtain⟨yk,yc,_,rfl,hya⟩:=hy.open;have h15:=h14.trans l5;refine o_oba ho fun b6 w9 ho=>?_;refine ob_put 0 hya.keys.one hya.kids.one ho rfl fun w10 ho=>?_;rw[fa_o0,ob_k ho 0 rfl];simp only[rs];have hmo:Fo.missOf d x=if (Fo.val d x Fo.kDesc).k=7 then Fo.orI (Fo.val d (Fo.val d x Fo.kDesc) Fo.kMiss) 0 else 0:=rfl
  have hmi:=hs.miss;have hdw:=hs.descw;have hyo:=hya.ov;rw[hmo] at hJ;generalize Fo.val d x Fo.kDesc=D at *;by_cases h7:D.k=7
  ·rw[if_pos h7] at hJ;simp only[decide_eq_true h7,i_t];have ho:OwnS S w0 w10 (obE b6 D yk yc::rdE b2 d vi tk tc x xk xc::ftE bf ⟨name,false,fi,es.map Ob.n,0,[],[]⟩ wv nilS nilS::.mem N5::L):=ho;rw[fa_rd0,rd_d ho 1 rfl,ob_v ho 0 rfl];refine o_strb1 Fo.kMiss ho fun b7 w11 ho=>?_;obtain⟨N6,l6,hrow,ho⟩:=OwnS.freezeU (ho.toU 1 1 1 rfl (by omega) (by omega)) 3 rfl;refine c_mem ho 3 rfl (dpath_ret d D [Fo.kMiss] _ _ _ N6 w11 hs.ok (by omega) (show 1≤1000000000 by decide) (ho.hasM 3 rfl) ⟨vi,tk,tc,ics,rfl,hda.le (h15.trans l6)⟩ (hyo.le l6) hrow) ?_;intro q N7 w12 l7 hq ho;obtain⟨qk,qc,_,rfl,hqa⟩:=hq.open;refine c_below ho (R:=fun v=>v=.int .i64 (Fo.orI (Fo.val d D Fo.kMiss) 0)) (or47w_ret _ hqa.keys.one hqa.kids.one 100000 0 w12 (hmi h7)) ?_;rintro _ w13 rfl ho;rw[fa_f4];refine o_store 2 ho rfl (by kernel_rfl) rfl (by simp[ftC]) fun w14 ho=>?_;exact hJ _ _ ⟨N7,(l5.trans l6).trans l7,ho.tail⟩
  ·rw[if_neg h7] at hJ;simp only[decide_eq_false h7,i_f];exact hJ _ _ ⟨N5,l5,ho.tail⟩
 clear ho;rintro vs W ⟨N5,l5,ho⟩ _;have h15:=h14.trans l5;unfold S_font_reader_simple_1;rw[rd_v ho 0 rfl];refine c_mem ho 2 rfl (at47_ret d x Fo.kEnc N5 W hs.ok (by have:=hs.wt;omega) (ho.hasM 2 rfl) (hda.le h15) (hx.le h15)) ?_;intro y N6 w8 l6 hy ho;obtain⟨yk,yc,_,rfl,hya⟩:=hy.open;refine o_oba ho fun b7 w9 ho=>?_;refine ob_put 0 hya.keys.one hya.kids.one ho rfl fun w10 ho=>?_;rw[fa_o0,ob_k ho 0 rfl];simp only[hs.enc];refine join fun J hJ=>?_;simp only[rs,decide_true,i_t];refine hJ _ _ fun _=>?_;simp only[S_font_reader_simple_2,gd,i_t];exact k N6 wv w10 ((h15).trans l6) (by rw[List.length_map] at *;exact hs4.le (l5.trans l6)) ho.tail.tail
end
end
section
open Eng Go.RowKit
def Fo.f0 (name:List UInt8):Ft:=⟨name,false,0,[],0,[],[]⟩
theorem maps47_ret (d:Dc)(x o:Ob){vi tk tc xk xc vk vc:Value}{ics:List Value}{bf:Nat}(M:Mem)(w:World)(hM:M.has w)(h0:o.k=0)(hda:DocAt M.A M.w d vi tk tc ics)(hx:OV M.A M.w (obV x xk xc) x)(hv:OV M.A M.w (obV o vk vc) o) :
  RetM prog 89 #[rdV d vi tk tc x xk xc,.pointer (some ⟨bf,0,none⟩),obV o vk vc] M w (fun r _=>r=.tuple #[]):=by
 refine retM_of hM fun K hK=>S_font_reader_maps_ok ?_;unfold S_font_reader_maps;refine o_rdb d x hda hx (OwnS.memS hM) fun b2 w1 ho=>?_;refine o_obb o hv.oneK hv.oneC ho fun b3 w2 ho=>?_;rw[fa_o0,ob_k ho 0 rfl,h0];simp only[rs,decide_true,i_t];exact hK _ _ M _ 2 ho rfl M.le_refl rfl
structure Fo.Reads (d:Dc) (x:Ob):Prop where
 simple:Fo.Simple d x
 dict:x.k=7
 sub:(Fo.val d x Fo.kSub).k=5∧(Fo.val d x Fo.kSub).s=Fo.kT1
 base:(Fo.val d x Fo.kBase).k=5
 toU:(Fo.val d x Fo.kToU).k=0
 ok:FtOk (Fo.readF d x (Fo.val d x Fo.kBase).s)
 chk:Fo.check (Fo.readF d x (Fo.val d x Fo.kBase).s)=0
section
variable {w:World}{PK PK2:PKT}{K:VWP}{S:Nat→Prop}{w0:World}{L:List Ent}
theorem o_fta (ho:OwnS S w0 w L)(k:∀b w',OwnS S w0 w' (ftE b (Fo.f0 []) nilS nilS nilS::L)→K (.pointer (some ⟨b,0,none⟩)) w'):DoX prog (mAlloc 26) w PK K:=
 o_new (fun b=>.pointer (some ⟨b,0,none⟩)) (ftC (Fo.f0 []) nilS nilS nilS) 26 (fun _=>by kernel_rfl) ho k
theorem ft_put (i:Nat){b:Nat}{f g:Ft}{wv nv mv wv' nv' mv':Value}(h1:wv'.oneCell'=true)(h2:nv'.oneCell'=true)(h3:mv'.oneCell'=true)(ho:OwnS S w0 w L)(hi:L[i]?=some (ftE b f wv nv mv))(k:∀w',OwnS S w0 w' (L.set i (ftE b g wv' nv' mv'))→K undef w') :
  DoX prog (mStore 26 (.pointer (some ⟨b,0,none⟩)) (ftV g wv' nv' mv')) w PK K:=o_put i ho hi (new:=ftC g wv' nv' mv') szFt (ftC_one h1 h2 h3) rfl k
theorem c_font47 {d:Dc}{x:Ob}{vi tk tc xk xc:Value}{ics:List Value}{N:Mem}(hut:UtM N)(hr:Fo.Reads d x)(ho:OwnS S w0 w (.mem N::L))(hda:DocAt N.A N.w d vi tk tc ics)(hx:OV N.A N.w (obV x xk xc) x)
  (k:∀N2 wv W,N.le N2→FtAt N2 (Fo.readF d x (Fo.val d x Fo.kBase).s) wv nilS nilS→OwnS S w0 W (.mem N2::L)→K (ftV (Fo.readF d x (Fo.val d x Fo.kBase).s) wv nilS nilS) W) :
  CallX prog 50 #[rdV d vi tk tc x xk xc] w PK K:=by
 have hs:=hr.simple;refine⟨S_font_reader_font_ok ?_⟩;unfold S_font_reader_font;refine o_rdb d x hda hx ho fun b1 w1 ho=>?_;refine o_fta ho fun b2 w2 ho=>?_;rw[rd_v ho 1 rfl];refine c_mem ho 2 rfl (at47_ret d x Fo.kSub N w2 hs.ok (by have:=hs.wt;omega) (ho.hasM 2 rfl) hda hx) ?_;intro y N1 w3 l1 hy ho;obtain⟨yk,yc,_,rfl,hya⟩:=hy.open;refine o_oba ho fun b3 w4 ho=>?_;refine ob_put 0 hya.keys.one hya.kids.one ho rfl fun w5 ho=>?_;rw[rd_v ho 2 rfl];refine c_mem ho 3 rfl (at47_ret d x Fo.kBase N1 w5 hs.ok (by have:=hs.wt;omega) (ho.hasM 3 rfl) (hda.le l1) (hx.le l1)) ?_;intro z N2 w6 l2 hz ho;obtain⟨zk,zc,_,rfl,hza⟩:=hz.open;refine o_oba ho fun b4 w7 ho=>?_;refine ob_put 0 hza.keys.one hza.kids.one ho rfl fun w8 ho=>?_;have h12:=l1.trans l2;have ho:OwnS S w0 w8 (obE b4 (Fo.val d x Fo.kBase) zk zc::obE b3 (Fo.val d x Fo.kSub) yk yc::ftE b2 (Fo.f0 []) nilS nilS nilS::rdE b1 d vi tk tc x xk xc::.mem N2::L):=ho;rw[fa_rd1,fa_o0,l_cell nInt5 (ho.cell 3 rfl 7 rfl)];simp only[rs,decide_eq_true hr.dict];rw[fa_o0,ob_k ho 1 rfl];simp only[rs,decide_eq_true hr.sub.1];rw[fa_o0,ob_k ho 0 rfl];simp only[rs,decide_eq_true hr.base];refine c_must47 rfl ?_;rw[fa_o3,ob_s ho 0 rfl];have hname:(Fo.readF d x (Fo.val d x Fo.kBase).s).name=(Fo.val d x Fo.kBase).s:=rfl;have htu:=hr.toU;have hok:=hr.ok;have hchk:=hr.chk;have hsub:=hr.sub.2;generalize (Fo.val d x Fo.kBase).s=nm at *;refine do_val (ftV (Fo.f0 nm) nilS nilS nilS) (by kernel_rfl) ?_;refine o_fta ho fun b5 w9 ho=>?_;refine ft_put 0 (g:=Fo.f0 nm) rfl rfl rfl ho rfl fun w10 ho=>?_;refine join fun J1 hJ1=>?_;rw[fa_o3,ob_s ho 2 rfl,hsub];refine join fun J2 hJ2=>?_;rw[e_str];simp only[rs,show decide (Fo.kT1=[84,121,112,101,49])=true by decide,i_t];refine hJ2 _ _ fun _=>?_;simp only[S_font_reader_font_0,gd,i_t];rw[rd_v ho 4 rfl];have ho:OwnS S w0 w10 (ftE b5 (Fo.f0 nm) nilS nilS nilS::([obE b4 (Fo.val d x Fo.kBase) zk zc,obE b3 (Fo.val d x Fo.kSub) yk yc,ftE b2 (Fo.f0 []) nilS nilS nilS,rdE b1 d vi tk tc x xk xc]++.mem N2::L)):=ho;have ho:=ho.perm (List.Perm.cons _ List.perm_middle);refine c_simple47 nm hs ho (hda.le h12) (hx.le h12) fun N3 wv w11 l3 hwv ho=>?_;have h13:=h12.trans l3;have ho:OwnS S w0 w11 (ftE b5 (Fo.readF d x nm) wv nilS nilS::.mem N3::obE b4 (Fo.val d x Fo.kBase) zk zc::obE b3 (Fo.val d x Fo.kSub) yk yc::ftE b2 (Fo.f0 []) nilS nilS nilS::rdE b1 d vi tk tc x xk xc::L):=ho;have hft:FtAt N3 (Fo.readF d x nm) wv nilS nilS:=⟨hwv,SlA.nil _ _ _ _,SlA.nil _ _ _ _⟩;refine hJ1 _ _ fun _=>?_;unfold S_font_reader_font_1;rw[rd_v ho 5 rfl];refine c_mem ho 1 rfl (at47_ret d x Fo.kToU N3 w11 hs.ok (by have:=hs.wt;omega) (ho.hasM 1 rfl) (hda.le h13) (hx.le h13)) ?_;intro q N4 w12 l4 hq ho;obtain⟨qk,qc,_,rfl,hqa⟩:=hq.open;have h14:=h13.trans l4;refine o_oba ho fun b6 w13 ho=>?_;refine ob_put 0 hqa.keys.one hqa.kids.one ho rfl fun w14 ho=>?_;have ho:OwnS S w0 w14 (obE b6 (Fo.val d x Fo.kToU) qk qc::ftE b5 (Fo.readF d x nm) wv nilS nilS::.mem N4::obE b4 (Fo.val d x Fo.kBase) zk zc::obE b3 (Fo.val d x Fo.kSub) yk yc::ftE b2 (Fo.f0 []) nilS nilS nilS::rdE b1 d vi tk tc x xk xc::L):=ho;rw[fa_o0,ob_k ho 0 rfl];simp only[rs,decide_eq_true htu,g_tf];rw[ft_v ho 1 rfl];refine c_mem ho 2 rfl (may47_ret (Fo.readF d x nm) wv nilS nilS N4 w14 hok (ho.hasM 2 rfl) (hft.le l4)) ?_;rintro _ N5 w15 l5 rfl ho
 try simp only[rs]
 refine c_must47 (Fo.check_may hchk) ?_;rw[rd_v ho 6 rfl,ob_v ho 0 rfl];refine c_mem ho 2 rfl (maps47_ret d x (Fo.val d x Fo.kToU) N5 w15 (ho.hasM 2 rfl) htu (hda.le (h14.trans l5)) (hx.le (h14.trans l5)) (hqa.ov.le l5)) ?_;rintro _ N6 w16 l6 rfl ho;rw[ft_v ho 1 rfl];have l46:=(l4.trans l5).trans l6;refine c_mem ho 2 rfl (fcheck47_ret (Fo.readF d x nm) wv nilS nilS N6 w16 (hut.le (h13.trans l46)) hok (ho.hasM 2 rfl) (hft.le l46)) ?_;rintro _ N7 w17 l7 rfl ho
 try simp only[rs]
 refine c_must47 (decide_eq_true hchk) ?_;rw[ft_v ho 1 rfl];refine ft_put 5 (g:=Fo.readF d x nm) hwv.one rfl rfl ho rfl fun w18 ho=>?_;refine ret_v1 (rv_cell (ho.agg 5 rfl aggFt)) ?_;have ho:OwnS S w0 w18 ([obE b6 (Fo.val d x Fo.kToU) qk qc,ftE b5 (Fo.readF d x nm) wv nilS nilS]++(.mem N7::([obE b4 (Fo.val d x Fo.kBase) zk zc,obE b3 (Fo.val d x Fo.kSub) yk yc,ftE b2 (Fo.readF d x nm) wv nilS nilS,rdE b1 d vi tk tc x xk xc]++L))):=ho;refine k N7 wv w18 (h13.trans (l46.trans l7)) (hft.le (l46.trans l7)) ?_;exact ho.sub ((List.Sublist.cons_cons _ (List.sublist_append_right _ _)).trans (List.sublist_append_right _ _))
theorem c_font47_f {d:Dc}{x:Ob}{vi tk tc xk xc:Value}{ics:List Value}{N:Mem}(hd:Dk.Ok d)(hw:x.wt≤100000000)(h7:x.k≠7)(ho:OwnS S w0 w (.mem N::L))(hda:DocAt N.A N.w d vi tk tc ics)(hx:OV N.A N.w (obV x xk xc) x)
  (k:∀N2 W,N.le N2→OwnS S w0 W (.mem N2::L)→PK [stF 27] W) :
  CallX prog 50 #[rdV d vi tk tc x xk xc] w PK K:=by
 refine⟨S_font_reader_font_ok ?_⟩;unfold S_font_reader_font;refine o_rdb d x hda hx ho fun b1 w1 ho=>?_;refine o_fta ho fun b2 w2 ho=>?_;rw[rd_v ho 1 rfl];refine c_mem ho 2 rfl (at47_ret d x Fo.kSub N w2 hd (by omega) (ho.hasM 2 rfl) hda hx) ?_;intro y N1 w3 l1 hy ho;obtain⟨yk,yc,_,rfl,hya⟩:=hy.open;refine o_oba ho fun b3 w4 ho=>?_;refine ob_put 0 hya.keys.one hya.kids.one ho rfl fun w5 ho=>?_;rw[rd_v ho 2 rfl];refine c_mem ho 3 rfl (at47_ret d x Fo.kBase N1 w5 hd (by omega) (ho.hasM 3 rfl) (hda.le l1) (hx.le l1)) ?_;intro z N2 w6 l2 hz ho;obtain⟨zk,zc,_,rfl,hza⟩:=hz.open;refine o_oba ho fun b4 w7 ho=>?_;refine ob_put 0 hza.keys.one hza.kids.one ho rfl fun w8 ho=>?_;have ho:OwnS S w0 w8 (obE b4 (Fo.val d x Fo.kBase) zk zc::obE b3 (Fo.val d x Fo.kSub) yk yc::ftE b2 (Fo.f0 []) nilS nilS nilS::rdE b1 d vi tk tc x xk xc::.mem N2::L):=ho;rw[fa_rd1,fa_o0,l_cell nInt5 (ho.cell 3 rfl 7 rfl)];simp only[rs,decide_eq_false h7,g_un];exact c_pan (must47_f w8) fun c w' ⟨hc,hw⟩=>by subst hc;subst hw;exact k N2 w8 (l1.trans l2) ho.tail.tail.tail.tail
end
end
section
open Eng Go.RowKit
theorem fread1_plain:plainB prog 48=true:=by kernel_rfl
theorem run_dc47 {W:World}{b:Nat}{d:Dc}{vi vk vc:Value}(h:(dcE b d vi vk vc).is W):(mLoad 50 (.pointer (some ⟨b,0,none⟩))).run prog W=.ok (.value (dcV d vi vk vc)) W:=
 run_load_at (AtV.agg aggDc (cs:=dcC d vi vk vc) rfl fun j v hj=>by rw[Nat.zero_add];exact cells_cell (T:=50) h hj)
theorem run_rdb (d:Dc)(o:Ob){A:Nat→Prop}{W0:World}{vi tk tc vk vc:Value}{ics:List Value}(hda:DocAt A W0 d vi tk tc ics)(hv:OV A W0 (obV o vk vc) o)(W:World):(mBuild 93 #[(0,dcV d vi tk tc),(1,obV o vk vc)]).run prog W=.ok (.value (rdV d vi tk tc o vk vc)) W:=by
 obtain⟨a1,c1,rfl,_⟩:=hda.items.form;obtain⟨_,h2⟩:=hda.trailer.slices;obtain⟨a2,c2,rfl,_⟩:=h2.keys.form;obtain⟨a3,c3,rfl,_⟩:=h2.kids.form;obtain⟨_,h4⟩:=hv.slices;obtain⟨a4,c4,rfl,_⟩:=h4.keys.form;obtain⟨a5,c5,rfl,_⟩:=h4.kids.form
 kernel_rfl
abbrev erE (b:Nat)(e:Int):Ent:=.cells b [.int .i64 e] 30
theorem fread47_ret (d:Dc)(o:Ob)(dv v:Value)(M:Mem)(w:World)(hut:UtM M)(hr:Fo.Reads d (Dk.follow d o))(how:o.wt≤1000000000)(hM:M.has w)(hdv:DV M.A M.w dv d)(hv:OV M.A M.w v o) :
  RetM prog 23 #[dv,v] M w (fun r N=>∃wv,r=.tuple #[ftV (Fo.readF d (Dk.follow d o) (Fo.val d (Dk.follow d o) Fo.kBase).s) wv nilS nilS,.int .i64 0]∧FtAt N (Fo.readF d (Dk.follow d o) (Fo.val d (Dk.follow d o) Fo.kBase).s) wv nilS nilS):=by
 obtain⟨vi,tk,tc,ics,rfl,hda⟩:=hdv;obtain⟨vk,vc,_,rfl,ha⟩:=hv.open;refine retM_of hM fun K hK=>S_font_Read_ok ?_;unfold S_font_Read;refine o_dcb d hda.items.one hda.trailer.oneK hda.trailer.oneC (OwnS.memS hM) fun b2 w1 ho=>?_;refine o_obb o ha.keys.one ha.kids.one ho fun b3 w2 ho=>?_;refine o_fta ho fun b4 w3 ho=>?_;refine o_new (fun b=>.pointer (some ⟨b,0,none⟩)) [.int .i64 0] 30 (fun _=>by kernel_rfl) ho fun b5 w4 ho=>?_;rw[m_func];refine⟨_,rfl,?_⟩;have ho:OwnS M.A w w4 [erE b5 0,ftE b4 (Fo.f0 []) nilS nilS nilS,obE b3 o vk vc,dcE b2 d vi tk tc,.mem M]:=ho;have ho:=ho.drew;refine⟨fun W=>(dcE b2 d vi tk tc).is W∧(obE b3 o vk vc).is W,⟨ho.at_ 3 rfl,ho.at_ 2 rfl⟩,?_⟩;refine hd_do _ (fun W h=>run_dc47 h.1) (hd_do _ (fun W h=>run_dc47 h.1) (hd_do _ (fun W h=>run_ob47 h.2) ?_));refine c_mem ho 4 rfl (dfollow_ret d o _ _ M _ hr.simple.ok how (ho.hasM 4 rfl) ⟨vi,tk,tc,ics,rfl,hda⟩ ha.ov) ?_;intro y N w5 l1 hy ho;obtain⟨yk,yc,_,rfl,hya⟩:=hy.open;refine⟨⟨ho.at_ 3 rfl,ho.at_ 2 rfl⟩,hd_pure _ (fun W=>run_rdb d _ (hda.le l1) hya.ov W) ?_⟩;have ho:OwnS M.A w w5 ([erE b5 0,ftE b4 (Fo.f0 []) nilS nilS nilS,obE b3 o vk vc,dcE b2 d vi tk tc]++[.mem N]):=ho;have ho:=ho.perm (List.perm_append_singleton _ _);refine c_font47 (hut.le l1) hr ho (hda.le l1) hya.ov fun N2 wv w6 l2 hft ho=>?_;refine⟨⟨ho.at_ 4 rfl,ho.at_ 3 rfl⟩,?_⟩;refine ft_put 2 hft.ws.one rfl rfl ho rfl fun w7 ho=>?_;refine o_store 1 ho rfl (by kernel_rfl) rfl (by simp) fun w8 ho=>?_;refine leave_fn (by simp) fread1_plain (S_font_Read_fn1_dok ?_);simp only[S_font_Read_fn1,recV,recM,Eng.n_nil Tryz.underlying20,rs,i_f];refine ret_v2 (rv_cell (ho.agg 2 rfl aggFt)) (rv_cell (by unfold AtV;exact run_loadVar_cell nErr5 (ho.cell 1 rfl 0 rfl))) ?_;exact hK _ _ N2 _ 0 ho rfl (l1.trans l2) ⟨wv,rfl,hft⟩
theorem aggSt47:(Tryz.prog.info? 73).map (·.size)=some 1:=by kernel_rfl
theorem fread47_f (d:Dc)(o:Ob)(dv v:Value)(M:Mem)(w:World)(hd:Dk.Ok d)(hw:(Dk.follow d o).wt≤100000000)(h7:(Dk.follow d o).k≠7)(how:o.wt≤1000000000)(hM:M.has w)(hdv:DV M.A M.w dv d)(hv:OV M.A M.w v o) :
  RetM prog 23 #[dv,v] M w (fun r _=>r=.tuple #[ftV (Fo.f0 []) nilS nilS nilS,.int .i64 27]):=by
 obtain⟨vi,tk,tc,ics,rfl,hda⟩:=hdv;obtain⟨vk,vc,_,rfl,ha⟩:=hv.open;refine retM_of hM fun K hK=>S_font_Read_ok ?_;unfold S_font_Read;refine o_dcb d hda.items.one hda.trailer.oneK hda.trailer.oneC (OwnS.memS hM) fun b2 w1 ho=>?_;refine o_obb o ha.keys.one ha.kids.one ho fun b3 w2 ho=>?_;refine o_fta ho fun b4 w3 ho=>?_;refine o_new (fun b=>.pointer (some ⟨b,0,none⟩)) [.int .i64 0] 30 (fun _=>by kernel_rfl) ho fun b5 w4 ho=>?_;rw[m_func];refine⟨_,rfl,?_⟩;have ho:OwnS M.A w w4 [erE b5 0,ftE b4 (Fo.f0 []) nilS nilS nilS,obE b3 o vk vc,dcE b2 d vi tk tc,.mem M]:=ho;have ho:=ho.drew;refine⟨fun W=>(dcE b2 d vi tk tc).is W∧(obE b3 o vk vc).is W,⟨ho.at_ 3 rfl,ho.at_ 2 rfl⟩,?_⟩;refine hd_do _ (fun W h=>run_dc47 h.1) (hd_do _ (fun W h=>run_dc47 h.1) (hd_do _ (fun W h=>run_ob47 h.2) ?_));refine c_mem ho 4 rfl (dfollow_ret d o _ _ M _ hd how (ho.hasM 4 rfl) ⟨vi,tk,tc,ics,rfl,hda⟩ ha.ov) ?_;intro y N w5 l1 hy ho;obtain⟨yk,yc,_,rfl,hya⟩:=hy.open;refine⟨⟨ho.at_ 3 rfl,ho.at_ 2 rfl⟩,hd_pure _ (fun W=>run_rdb d _ (hda.le l1) hya.ov W) ?_⟩;have ho:OwnS M.A w w5 ([erE b5 0,ftE b4 (Fo.f0 []) nilS nilS nilS,obE b3 o vk vc,dcE b2 d vi tk tc]++[.mem N]):=ho;have ho:=ho.perm (List.perm_append_singleton _ _);refine c_font47_f hd hw h7 ho (hda.le l1) hya.ov fun N2 w6 l2 ho=>?_;intro _ _ _ _;simp only[S_font_Read_p0,pd];refine leave_fn (by simp) fread1_plain (S_font_Read_fn1_dok ?_);simp only[S_font_Read_fn1,recV,recM,stF,Eng.n_some Tryz.underlying20,rs,i_t];simp only[t_hit nfSt47,x_ext (show [Value.agg #[.int .i64 27],Value.bool true][1]?=some (Value.bool true) from rfl),x_ext (show [Value.agg #[.int .i64 27],Value.bool true][0]?=some (Value.agg #[.int .i64 27]) from rfl)];refine o_new (fun b=>.pointer (some ⟨b,0,none⟩)) [.int .i64 0] 73 (fun _=>by kernel_rfl) ho fun b7 w7 ho=>?_;refine o_put 0 ho rfl (new:=[.int .i64 27]) aggSt47 (by simp[Value.oneCell']) rfl fun w8 ho=>?_;have ho:OwnS M.A w w8 [.cells b7 [.int .i64 27] 73,.mem N2,erE b5 0,ftE b4 (Fo.f0 []) nilS nilS nilS,obE b3 o vk vc,dcE b2 d vi tk tc]:=ho;refine join fun J hJ=>?_;simp only[rs,Bool.not_true,i_f];refine hJ _ _ fun _=>?_;unfold S_font_Read_fn1_0;have hz:∀{PK:PKT} {K:VWP} {W:World},DoX prog (mBuild 26 #[]) W PK K=K (ftV (Fo.f0 []) nilS nilS nilS) W:=fun {PK K W}=>do_eq (by kernel_rfl);have hfa:∀{PK:PKT} {K:VWP} {W:World},DoX prog (mFA 73 (.pointer (some ⟨b7,0,none⟩)) 0) W PK K=K (.pointer (some ⟨b7,0,none⟩)) W:=fun {PK K W}=>f_addr (o:=0) (by kernel_rfl);have out:∀{W:World},OwnS M.A w W [.cells b7 [.int .i64 27] 73,.mem N2,erE b5 27,ftE b4 (Fo.f0 []) nilS nilS nilS,obE b3 o vk vc,dcE b2 d vi tk tc]→RetX prog [.cell (.pointer (some ⟨b4,0,none⟩)) 26,.cell (.pointer (some ⟨b5,0,none⟩)) 30] W K:=fun ho=>
  ret_v2 (rv_cell (ho.agg 3 rfl aggFt)) (rv_cell (by unfold AtV;exact run_loadVar_cell nErr5 (ho.cell 2 rfl 0 rfl))) (hK _ _ N2 _ 1 ho rfl (l1.trans l2) rfl)
 have ho:=ho.drew;have st:∀{W:World} {e:Int} {PK:PKT} {K':World→Prop},OwnS M.A w W [.cells b7 [.int .i64 27] 73,.mem N2,erE b5 e,ftE b4 (Fo.f0 []) nilS nilS nilS,obE b3 o vk vc,dcE b2 d vi tk tc]→(∀W,OwnS M.A w W [.cells b7 [.int .i64 27] 73,.mem N2,erE b5 e,ftE b4 (Fo.f0 []) nilS nilS nilS,obE b3 o vk vc,dcE b2 d vi tk tc]→K' W)→DoX prog (mStore 26 (.pointer (some ⟨b4,0,none⟩)) (ftV (Fo.f0 []) nilS nilS nilS)) W PK fun _ w=>K' w:=
  fun ho k=>ft_put 3 (g:=Fo.f0 []) rfl rfl rfl ho rfl fun w9 ho=>k w9 ho
 have se:∀{W:World} {PK:PKT} {K':World→Prop},OwnS M.A w W [.cells b7 [.int .i64 27] 73,.mem N2,erE b5 0,ftE b4 (Fo.f0 []) nilS nilS nilS,obE b3 o vk vc,dcE b2 d vi tk tc]→(∀W,OwnS M.A w W [.cells b7 [.int .i64 27] 73,.mem N2,erE b5 27,ftE b4 (Fo.f0 []) nilS nilS nilS,obE b3 o vk vc,dcE b2 d vi tk tc]→K' W)→DoX prog (mStore 30 (.pointer (some ⟨b5,0,none⟩)) (.int .i64 27)) W PK fun _ w=>K' w:=
  fun ho k=>o_store 2 ho rfl (by kernel_rfl) rfl (by simp) fun w9 ho=>k w9 ho
 have ld:∀{W:World} {e:Int} {PK:PKT} {K:VWP},OwnS M.A w W [.cells b7 [.int .i64 27] 73,.mem N2,erE b5 e,ftE b4 (Fo.f0 []) nilS nilS nilS,obE b3 o vk vc,dcE b2 d vi tk tc]→DoX prog (mLoad 30 (.pointer (some ⟨b7,0,none⟩))) W PK K=K (.int .i64 27) W:=fun ho=>l_cell nErr5 (ho.cell 0 rfl 0 rfl);refine⟨?_⟩;simp only[hz,hfa,S_font_Read_fn1_1];refine⟨⟨⟨?_,?_⟩,?_⟩,⟨?_,?_⟩,?_⟩
 all_goals first
 |exact (ld ho).mpr (st ho fun W ho=>se ho fun W ho=>out ho)
 |exact st ho fun W ho=>(ld ho).mpr (se ho fun W ho=>out ho)
end
section
open Go
namespace Fo
def catK:List UInt8:=[67,97,116,97,108,111,103]
def smpD:Dc:=⟨[⟨1,0,.mk 7 0 0 [] [kType] [nm catK]⟩],.mk 7 0 0 [] [Dk.rootK] [.mk 8 1 0 [] [] []]⟩
def smpF:Ft:=⟨[72],false,65,[500,600],250,[],[]⟩
def ref2:Ob:=.mk 8 2 0 [] [] []
def smpO:Ob:=mkD (narrowP smpF)
def smpD1:Dc:=Dk.added smpD smpO
theorem smp_check:Dk.check smpD=0:=by decide +kernel
theorem smp_next:Dk.next smpD=2:=by decide +kernel
theorem smp_put:(Dk.put smpD ⟨Dk.next smpD,0,smpO⟩).2=0:=by decide +kernel
theorem smp_fcheck:check smpF=0:=by decide +kernel
theorem smp_items:smpD1=⟨smpD.items++[⟨2,0,smpO⟩],smpD.trailer⟩:=by rfl
theorem smp_follow:Dk.follow smpD1 ref2=smpO:=by rfl
theorem smp_sub:val smpD1 smpO kSub=nm kT1:=by rfl
theorem smp_base:val smpD1 smpO kBase=nm [72]:=by rfl
theorem smp_first:val smpD1 smpO kFirst=int 65:=by rfl
theorem smp_wid:val smpD1 smpO kWid=arr [int 500,int 600]:=by rfl
theorem smp_desc:val smpD1 smpO kDesc=mkD (descP smpF):=by rfl
theorem smp_miss:val smpD1 (mkD (descP smpF)) kMiss=int 250:=by rfl
theorem smp_enc:val smpD1 smpO kEnc=Vl.ob0:=by rfl
theorem smp_toU:val smpD1 smpO kToU=Vl.ob0:=by rfl
theorem smp_elems:elems smpD1 (arr [int 500,int 600])=[int 500,int 600]:=by rfl
theorem smp_read:readF smpD1 smpO [72]=smpF:=by
 unfold readF missOf;rw[smp_first,smp_wid,smp_desc,smp_miss,smp_elems];rfl
theorem smpD_ok:Dk.Ok smpD:=by
 refine⟨by decide,fun i hi=>?_,by decide⟩;rw[List.mem_singleton.1 hi]
 decide
end Fo
end
section
open Eng Go.RowKit
namespace Fo
theorem smpO_wt:smpO.wt≤10000:=by decide +kernel
theorem smp_addOk:AddOk smpD smpO:=by
 refine⟨smpD_ok,by decide,by have:=smpO_wt;omega,smp_check,by rw[smp_next];decide,fun i hi=>?_,smp_put⟩;rw[List.mem_singleton.1 hi]
 decide
theorem smp_wts:Ob.wts (flatP (narrowP smpF))≤1000000000:=by decide +kernel
theorem smpD1_ok:Dk.Ok smpD1:=by
 rw[smp_items];refine⟨by decide,fun i hi=>?_,by decide⟩;rcases List.mem_append.1 hi with hi|hi
 ·exact smpD_ok.items i hi
 ·rw[List.mem_singleton.1 hi];have:=smpO_wt;show smpO.wt≤_;omega
theorem smpF_ok:FtOk smpF:=⟨by decide,by decide,by decide,(fun s h=>by cases h),by decide,(fun x h=>by cases h),by decide⟩
theorem smp_simple:Simple smpD1 smpO:=by
 refine⟨smpD1_ok,by have:=smpO_wt;omega,?_,?_,?_,?_,?_,?_,?_,?_⟩
 ·rw[smp_first];exact .inr ⟨rfl,by decide,by decide⟩
 ·rw[smp_wid];exact .inr rfl
 ·rw[smp_wid];decide +kernel
 ·rw[smp_wid,smp_elems];intro o ho;rcases List.mem_cons.1 ho with rfl|ho
  ·exact⟨rfl,by decide,by decide⟩
  ·rw[List.mem_singleton.1 ho];exact⟨rfl,by decide,by decide⟩
 ·rw[smp_wid,smp_elems];decide
 ·rw[smp_desc];decide +kernel
 ·rw[smp_desc,smp_miss];exact fun _=>.inr ⟨rfl,by decide,by decide⟩
 ·rw[smp_enc];rfl
theorem smp_reads:Reads smpD1 smpO:=by
 have hn:(val smpD1 smpO kBase).s=[72]:=by rw[smp_base];rfl
 refine⟨smp_simple,rfl,?_,?_,?_,?_,?_⟩
 ·rw[smp_sub];exact⟨rfl,rfl⟩
 ·rw[smp_base];rfl
 ·rw[smp_toU];rfl
 ·rw[hn,smp_read];exact smpF_ok
 ·rw[hn,smp_read];exact smp_fcheck
end Fo
end
section
open Eng
def S_foliantlaw47_lives_0 (t1 t2 t3 t4:Value)(w:World)(K:Ending→World→Prop):Prop:=
 DoX prog (mLoad 50 t2) w (pk K) fun t24 w=>
 DoX prog (mLoad 48 t3) w (pk K) fun t25 w=>
 CallX prog 23 #[t24,t25] w (pk K) fun t26 w=>
 DoX prog (mExt t26 0) w (pk K) fun t27 w=>
 DoX prog (mExt t26 1) w (pk K) fun t28 w=>
 DoX prog (mAlloc 26) w (pk K) fun t5 w=>
 DoX prog (mStore 26 t5 t27) w (pk K) fun _ w=>
 DoX prog (mBuild 26 #[(1,(.bool true))]) w (pk K) fun t30 w=>
 CallX prog 7 #[t30,(.string ⟨#[1,2]⟩)] w (pk K) fun t31 w=>
 DoX prog (mExt t31 0) w (pk K) fun t32 w=>
 DoX prog (mExt t31 1) w (pk K) fun t33 w=>
 DoX prog (mBuild 26 #[(1,(.bool true))]) w (pk K) fun t35 w=>
 CallX prog 7 #[t35,(.string ⟨#[97]⟩)] w (pk K) fun t36 w=>
 DoX prog (mExt t36 0) w (pk K) fun t37 w=>
 DoX prog (mExt t36 1) w (pk K) fun t38 w=>
 CallX prog 22 #[] w (pk K) fun t40 w=>
 CallX prog 24 #[] w (pk K) fun t41 w=>
 CallX prog 23 #[t40,t41] w (pk K) fun t42 w=>
 DoX prog (mExt t42 0) w (pk K) fun t43 w=>
 DoX prog (mExt t42 1) w (pk K) fun t44 w=>
 DoX prog (mAlloc 26) w (pk K) fun t11 w=>
 DoX prog (mStore 26 t11 t43) w (pk K) fun _ w=>
 CallX prog 19 #[] w (pk K) fun t45 w=>
 DoX prog (mEq .eql 30 (.tmp 46) (.const (.int .i64 0)) t4 (.int .i64 0)) w (pk K) fun t47 w=>
 GDo t47 true (fun E=>DoX prog (mFA 48 t3 0) w (pk K) E) w fun t49 w=>
 GDo t47 true (fun E=>DoX prog (mLoad 3 t49) w (pk K) E) w fun t50 w=>
 GDo t47 true (fun E=>DoX prog (mEq .eql 3 (.tmp 50) (.const (.int .i64 8)) t50 (.int .i64 8)) w (pk K) E) w fun t51 w=>
 DoX prog (mPick t47 t51 (.bool false)) w (pk K) fun t52 w=>
 GDo t52 true (fun E=>E t28 w) w fun t54 w=>
 GDo t52 true (fun E=>DoX prog (mEq .eql 30 (.tmp 54) (.const (.int .i64 0)) t54 (.int .i64 0)) w (pk K) E) w fun t55 w=>
 DoX prog (mPick t52 t55 (.bool false)) w (pk K) fun t56 w=>
 GDo t56 true (fun E=>DoX prog (mLoad 26 t1) w (pk K) E) w fun t58 w=>
 GDo t56 true (fun E=>DoX prog (mLoad 26 t5) w (pk K) E) w fun t59 w=>
 GDo t56 true (fun E=>CallX prog 25 #[t58,t59] w (pk K) E) w fun t60 w=>
 DoX prog (mPick t56 t60 (.bool false)) w (pk K) fun t61 w=>
 GDo t61 true (fun E=>E t33 w) w fun t63 w=>
 GDo t61 true (fun E=>DoX prog (mEq .eql 30 (.tmp 63) (.const (.int .i64 0)) t63 (.int .i64 0)) w (pk K) E) w fun t64 w=>
 DoX prog (mPick t61 t64 (.bool false)) w (pk K) fun t65 w=>
 GDo t65 true (fun E=>E t32 w) w fun t67 w=>
 GDo t65 true (fun E=>DoX prog (mBuildS 29 1 #[(0,(.int .i64 258))]) w (pk K) E) w fun t68 w=>
 GDo t65 true (fun E=>CallX prog 9 #[t67,t68] w (pk K) E) w fun t69 w=>
 DoX prog (mPick t65 t69 (.bool false)) w (pk K) fun t70 w=>
 GDo t70 true (fun E=>E t38 w) w fun t72 w=>
 GDo t70 true (fun E=>DoX prog (mEq .eql 30 (.tmp 72) (.const (.int .i64 3)) t72 (.int .i64 3)) w (pk K) E) w fun t73 w=>
 DoX prog (mPick t70 t73 (.bool false)) w (pk K) fun t74 w=>
 GDo t74 true (fun E=>E t44 w) w fun t76 w=>
 GDo t74 true (fun E=>DoX prog (mEq .eql 30 (.tmp 76) (.const (.int .i64 27)) t76 (.int .i64 27)) w (pk K) E) w fun t77 w=>
 DoX prog (mPick t74 t77 (.bool false)) w (pk K) fun t78 w=>
 GDo t78 true (fun E=>E t45 w) w fun t80 w=>
 GDo t78 true (fun E=>DoX prog (mB .len #[23] 3 #[false] #[t80]) w (pk K) E) w fun t81 w=>
 GDo t78 true (fun E=>DoX prog (mEq .eql 3 (.tmp 81) (.const (.int .i64 256)) t81 (.int .i64 256)) w (pk K) E) w fun t82 w=>
 DoX prog (mPick t78 t82 (.bool false)) w (pk K) fun t83 w=>
 GDo t83 true (fun E=>E t45 w) w fun t85 w=>
 GDo t83 true (fun E=>DoX prog (mIA 23 t85 (.int .i64 65)) w (pk K) E) w fun t86 w=>
 GDo t83 true (fun E=>DoX prog (mLoad 9 t86) w (pk K) E) w fun t87 w=>
 GDo t83 true (fun E=>DoX prog (mEq .eql 9 (.tmp 87) (.const (.string ⟨#[65]⟩)) t87 (.string ⟨#[65]⟩)) w (pk K) E) w fun t88 w=>
 DoX prog (mPick t83 t88 (.bool false)) w (pk K) fun t89 w=>
 GDo t89 true (fun E=>E t45 w) w fun t91 w=>
 GDo t89 true (fun E=>DoX prog (mIA 23 t91 (.int .i64 126)) w (pk K) E) w fun t92 w=>
 GDo t89 true (fun E=>DoX prog (mLoad 9 t92) w (pk K) E) w fun t93 w=>
 GDo t89 true (fun E=>DoX prog (mEq .eql 9 (.tmp 93) (.const (.string ⟨#[97,115,99,105,105,116,105,108,100,101]⟩)) t93 (.string ⟨#[97,115,99,105,105,116,105,108,100,101]⟩)) w (pk K) E) w fun t94 w=>
 DoX prog (mPick t89 t94 (.bool false)) w (pk K) fun t95 w=>
 GDo t95 true (fun E=>E t45 w) w fun t97 w=>
 GDo t95 true (fun E=>DoX prog (mIA 23 t97 (.int .i64 31)) w (pk K) E) w fun t98 w=>
 GDo t95 true (fun E=>DoX prog (mLoad 9 t98) w (pk K) E) w fun t99 w=>
 GDo t95 true (fun E=>DoX prog (mEq .eql 9 (.tmp 99) (.const (.string ⟨#[]⟩)) t99 (.string ⟨#[]⟩)) w (pk K) E) w fun t100 w=>
 DoX prog (mPick t95 t100 (.bool false)) w (pk K) fun t101 w=>
 GDo t101 true (fun E=>CallX prog 14 #[(.string ⟨#[117,110,105,48,48,69,57]⟩)] w (pk K) E) w fun t103 w=>
 GDo t101 true (fun E=>DoX prog (mEq .eql 9 (.tmp 103) (.const (.string ⟨#[195,169]⟩)) t103 (.string ⟨#[195,169]⟩)) w (pk K) E) w fun t104 w=>
 DoX prog (mPick t101 t104 (.bool false)) w (pk K) fun t105 w=>
 GDo t105 true (fun E=>CallX prog 14 #[(.string ⟨#[117,110,105,68,56,48,48]⟩)] w (pk K) E) w fun t107 w=>
 GDo t105 true (fun E=>DoX prog (mEq .eql 9 (.tmp 107) (.const (.string ⟨#[]⟩)) t107 (.string ⟨#[]⟩)) w (pk K) E) w fun t108 w=>
 DoX prog (mPick t105 t108 (.bool false)) w (pk K) fun t109 w=>
 GDo t109 true (fun E=>CallX prog 14 #[(.string ⟨#[97,116]⟩)] w (pk K) E) w fun t111 w=>
 GDo t109 true (fun E=>DoX prog (mEq .eql 9 (.tmp 111) (.const (.string ⟨#[64]⟩)) t111 (.string ⟨#[64]⟩)) w (pk K) E) w fun t112 w=>
 DoX prog (mPick t109 t112 (.bool false)) w (pk K) fun t113 w=>
 GDo t113 true (fun E=>DoX prog (mLoad 26 t1) w (pk K) E) w fun t115 w=>
 GDo t113 true (fun E=>CallX prog 12 #[t115,(.int .i64 65)] w (pk K) E) w fun t116 w=>
 GDo t113 true (fun E=>DoX prog (mEq .eql 9 (.tmp 116) (.const (.string ⟨#[65]⟩)) t116 (.string ⟨#[65]⟩)) w (pk K) E) w fun t117 w=>
 DoX prog (mPick t113 t117 (.bool false)) w (pk K) fun t118 w=>
 GDo t118 true (fun E=>DoX prog (mLoad 26 t1) w (pk K) E) w fun t120 w=>
 GDo t118 true (fun E=>CallX prog 10 #[t120,(.int .i64 66)] w (pk K) E) w fun t121 w=>
 GDo t118 true (fun E=>DoX prog (mEq .eql 2 (.tmp 121) (.const (.int .i64 600)) t121 (.int .i64 600)) w (pk K) E) w fun t122 w=>
 DoX prog (mPick t118 t122 (.bool false)) w (pk K) fun t123 w=>
 GDo t123 true (fun E=>DoX prog (mLoad 26 t1) w (pk K) E) w fun t125 w=>
 GDo t123 true (fun E=>CallX prog 10 #[t125,(.int .i64 67)] w (pk K) E) w fun t126 w=>
 GDo t123 true (fun E=>DoX prog (mEq .eql 2 (.tmp 126) (.const (.int .i64 250)) t126 (.int .i64 250)) w (pk K) E) w fun t127 w=>
 DoX prog (mPick t123 t127 (.bool false)) w (pk K) fun t128 w=>
 GDo t128 true (fun E=>DoX prog (mLoad 26 t1) w (pk K) E) w fun t130 w=>
 GDo t128 true (fun E=>CallX prog 16 #[t130] w (pk K) E) w fun t131 w=>
 GDo t128 true (fun E=>DoX prog (mEq .eql 30 (.tmp 131) (.const (.int .i64 0)) t131 (.int .i64 0)) w (pk K) E) w fun t132 w=>
 DoX prog (mPick t128 t132 (.bool false)) w (pk K) fun t133 w=>
 GDo t133 true (fun E=>DoX prog (mBuild 26 #[]) w (pk K) E) w fun t135 w=>
 GDo t133 true (fun E=>CallX prog 16 #[t135] w (pk K) E) w fun t136 w=>
 GDo t133 true (fun E=>DoX prog (mEq .eql 30 (.tmp 136) (.const (.int .i64 1)) t136 (.int .i64 1)) w (pk K) E) w fun t137 w=>
 DoX prog (mPick t133 t137 (.bool false)) w (pk K) fun t138 w=>
 K (.returned t138) w
def S_foliantlaw47_lives_h1 (S1:World→Prop)(t1 t3 t17 t18:Value)(w:World)(K:Ending→World→Prop):Prop:=
 (CallX prog 21 #[t17,t18] w (pm1 (pm1 (pm1 (pm1 (pm1 (pm1 (pk K))))))) fun t19_1 w=>
 (HDo prog (fun _=>True) (mExt t19_1 0) fun t20_1=>
 HDo prog (fun _=>True) (mExt t19_1 1) fun t21_1=>
 HDo prog (fun _=>True) (mExt t19_1 2) fun t22_1=>
 DoX prog (mAlloc 50) w (pm1 (pm1 (pm1 (pm1 (pm1 (pm1 (pk K))))))) fun t2_1 w=>
 S1 w∧(DoX prog (mStore 50 t2_1 t20_1) w (pm1 (pm1 (pm1 (pm1 (pm1 (pm1 (pk K))))))) fun _ w=>
 (DoX prog (mStore 48 t3 t21_1) w (pm1 (pm1 (pm1 (pm1 (pm1 (pm1 (pk K))))))) fun _ w=>
 (S_foliantlaw47_lives_0 t1 t2_1 t3 t22_1 w K)))))∧(DoX prog (mAlloc 50) w (pm1 (pm1 (pm1 (pm1 (pm1 (pm1 (pk K))))))) fun t2_2 w=>
 S1 w∧(CallX prog 21 #[t17,t18] w (pm1 (pm1 (pm1 (pm1 (pm1 (pm1 (pk K))))))) fun t19_2 w=>
 (HDo prog (fun _=>True) (mExt t19_2 0) fun t20_2=>
 HDo prog (fun _=>True) (mExt t19_2 1) fun t21_2=>
 HDo prog (fun _=>True) (mExt t19_2 2) fun t22_2=>
 DoX prog (mStore 50 t2_2 t20_2) w (pm1 (pm1 (pm1 (pm1 (pm1 (pm1 (pk K))))))) fun _ w=>
 (DoX prog (mStore 48 t3 t21_2) w (pm1 (pm1 (pm1 (pm1 (pm1 (pm1 (pk K))))))) fun _ w=>
 (S_foliantlaw47_lives_0 t1 t2_2 t3 t22_2 w K)))))
def S_foliantlaw47_lives_h0 (S1:World→Prop)(t1 t2 t17 t18:Value)(w:World)(K:Ending→World→Prop):Prop:=
 (CallX prog 21 #[t17,t18] w (pm1 (pm1 (pm1 (pm1 (pm1 (pm1 (pk K))))))) fun t19_1 w=>
 (HDo prog (fun _=>True) (mExt t19_1 0) fun t20_1=>
 HDo prog (fun _=>True) (mExt t19_1 1) fun t21_1=>
 HDo prog (fun _=>True) (mExt t19_1 2) fun t22_1=>
 DoX prog (mAlloc 48) w (pm1 (pm1 (pm1 (pm1 (pm1 (pm1 (pk K))))))) fun t3_1 w=>
 S1 w∧(DoX prog (mStore 50 t2 t20_1) w (pm1 (pm1 (pm1 (pm1 (pm1 (pm1 (pk K))))))) fun _ w=>
 (DoX prog (mStore 48 t3_1 t21_1) w (pm1 (pm1 (pm1 (pm1 (pm1 (pm1 (pk K))))))) fun _ w=>
 (S_foliantlaw47_lives_0 t1 t2 t3_1 t22_1 w K)))))∧(DoX prog (mAlloc 48) w (pm1 (pm1 (pm1 (pm1 (pm1 (pm1 (pk K))))))) fun t3_2 w=>
 S1 w∧(CallX prog 21 #[t17,t18] w (pm1 (pm1 (pm1 (pm1 (pm1 (pm1 (pk K))))))) fun t19_2 w=>
 (HDo prog (fun _=>True) (mExt t19_2 0) fun t20_2=>
 HDo prog (fun _=>True) (mExt t19_2 1) fun t21_2=>
 HDo prog (fun _=>True) (mExt t19_2 2) fun t22_2=>
 DoX prog (mStore 50 t2 t20_2) w (pm1 (pm1 (pm1 (pm1 (pm1 (pm1 (pk K))))))) fun _ w=>
 (DoX prog (mStore 48 t3_2 t21_2) w (pm1 (pm1 (pm1 (pm1 (pm1 (pm1 (pk K))))))) fun _ w=>
 (S_foliantlaw47_lives_0 t1 t2 t3_2 t22_2 w K)))))
def S_foliantlaw47_lives (w:World)(K:Ending→World→Prop):Prop:=
 DoX prog (mBuildS 22 2 #[(0,(.int .i64 500)),(1,(.int .i64 600))]) w (pk K) fun t14 w=>
 DoX prog (mBuild 26 #[(0,(.string ⟨#[72]⟩)),(2,(.int .i64 65)),(3,t14),(4,(.int .i64 250))]) w (pk K) fun t15 w=>
 DoX prog (mAlloc 26) w (pk K) fun t1 w=>
 DoX prog (mStore 26 t1 t15) w (pk K) fun _ w=>
 HeldX w (fun S1 w=>
 HDo prog S1 (mLoad 26 t1) fun t18=>
 (CallX prog 22 #[] w (pm1 (pm1 (pm1 (pm1 (pm1 (pm1 (pk K))))))) fun t17 w=>
 S1 w∧((CallX prog 21 #[t17,t18] w (pm1 (pm1 (pm1 (pm1 (pm1 (pm1 (pk K))))))) fun t19 w=>
 (HDo prog (fun _=>True) (mExt t19 0) fun t20=>
 HDo prog (fun _=>True) (mExt t19 1) fun t21=>
 HDo prog (fun _=>True) (mExt t19 2) fun t22=>
 (DoX prog (mAlloc 50) w (pm1 (pm1 (pm1 (pm1 (pm1 (pm1 (pk K))))))) fun t2 w=>
 S1 w∧(DoX prog (mAlloc 48) w (pm1 (pm1 (pm1 (pm1 (pm1 (pm1 (pk K))))))) fun t3 w=>
 S1 w∧(DoX prog (mStore 50 t2 t20) w (pm1 (pm1 (pm1 (pm1 (pm1 (pm1 (pk K))))))) fun _ w=>
 (DoX prog (mStore 48 t3 t21) w (pm1 (pm1 (pm1 (pm1 (pm1 (pm1 (pk K))))))) fun _ w=>
 (S_foliantlaw47_lives_0 t1 t2 t3 t22 w K)))))∧(DoX prog (mAlloc 48) w (pm1 (pm1 (pm1 (pm1 (pm1 (pm1 (pk K))))))) fun t3_1 w=>
 S1 w∧(DoX prog (mAlloc 50) w (pm1 (pm1 (pm1 (pm1 (pm1 (pm1 (pk K))))))) fun t2_1 w=>
 S1 w∧(DoX prog (mStore 50 t2_1 t20) w (pm1 (pm1 (pm1 (pm1 (pm1 (pm1 (pk K))))))) fun _ w=>
 (DoX prog (mStore 48 t3_1 t21) w (pm1 (pm1 (pm1 (pm1 (pm1 (pm1 (pk K))))))) fun _ w=>
 (S_foliantlaw47_lives_0 t1 t2_1 t3_1 t22 w K)))))))∧(DoX prog (mAlloc 50) w (pm1 (pm1 (pm1 (pm1 (pm1 (pm1 (pk K))))))) fun t2_2 w=>
 S1 w∧(S_foliantlaw47_lives_h0 S1 t1 t2_2 t17 t18 w K))∧(DoX prog (mAlloc 48) w (pm1 (pm1 (pm1 (pm1 (pm1 (pm1 (pk K))))))) fun t3_2 w=>
 S1 w∧(S_foliantlaw47_lives_h1 S1 t1 t3_2 t17 t18 w K))))∧(DoX prog (mAlloc 50) w (pm1 (pm1 (pm1 (pm1 (pm1 (pm1 (pk K))))))) fun t2_3 w=>
 S1 w∧((CallX prog 22 #[] w (pm1 (pm1 (pm1 (pm1 (pm1 (pm1 (pk K))))))) fun t17_1 w=>
 S1 w∧(S_foliantlaw47_lives_h0 S1 t1 t2_3 t17_1 t18 w K))∧(DoX prog (mAlloc 48) w (pm1 (pm1 (pm1 (pm1 (pm1 (pm1 (pk K))))))) fun t3_3 w=>
 S1 w∧(CallX prog 22 #[] w (pm1 (pm1 (pm1 (pm1 (pm1 (pm1 (pk K))))))) fun t17_2 w=>
 S1 w∧(CallX prog 21 #[t17_2,t18] w (pm1 (pm1 (pm1 (pm1 (pm1 (pm1 (pk K))))))) fun t19_1 w=>
 (HDo prog (fun _=>True) (mExt t19_1 0) fun t20_1=>
 HDo prog (fun _=>True) (mExt t19_1 1) fun t21_1=>
 HDo prog (fun _=>True) (mExt t19_1 2) fun t22_1=>
 DoX prog (mStore 50 t2_3 t20_1) w (pm1 (pm1 (pm1 (pm1 (pm1 (pm1 (pk K))))))) fun _ w=>
 (DoX prog (mStore 48 t3_3 t21_1) w (pm1 (pm1 (pm1 (pm1 (pm1 (pm1 (pk K))))))) fun _ w=>
 (S_foliantlaw47_lives_0 t1 t2_3 t3_3 t22_1 w K))))))))∧(DoX prog (mAlloc 48) w (pm1 (pm1 (pm1 (pm1 (pm1 (pm1 (pk K))))))) fun t3_4 w=>
 S1 w∧((CallX prog 22 #[] w (pm1 (pm1 (pm1 (pm1 (pm1 (pm1 (pk K))))))) fun t17_3 w=>
 S1 w∧(S_foliantlaw47_lives_h1 S1 t1 t3_4 t17_3 t18 w K))∧(DoX prog (mAlloc 50) w (pm1 (pm1 (pm1 (pm1 (pm1 (pm1 (pk K))))))) fun t2_4 w=>
 S1 w∧(CallX prog 22 #[] w (pm1 (pm1 (pm1 (pm1 (pm1 (pm1 (pk K))))))) fun t17_4 w=>
 S1 w∧(CallX prog 21 #[t17_4,t18] w (pm1 (pm1 (pm1 (pm1 (pm1 (pm1 (pk K))))))) fun t19_2 w=>
 (HDo prog (fun _=>True) (mExt t19_2 0) fun t20_2=>
 HDo prog (fun _=>True) (mExt t19_2 1) fun t21_2=>
 HDo prog (fun _=>True) (mExt t19_2 2) fun t22_2=>
 DoX prog (mStore 50 t2_4 t20_2) w (pm1 (pm1 (pm1 (pm1 (pm1 (pm1 (pk K))))))) fun _ w=>
 (DoX prog (mStore 48 t3_4 t21_2) w (pm1 (pm1 (pm1 (pm1 (pm1 (pm1 (pk K))))))) fun _ w=>
 (S_foliantlaw47_lives_0 t1 t2_4 t3_4 t22_2 w K)))))))))
theorem S_foliantlaw47_lives_eq (w:World)(K:Ending→World→Prop):wpX prog 139 [] [] none (bodyOf Tryz.f6) (topQ prog [.tmp 0] K) (startX []) [] w=S_foliantlaw47_lives w K:=by kernel_rfl
theorem S_foliantlaw47_lives_ok {w:World}{K:Ending→World→Prop}(h:S_foliantlaw47_lives w K):Calls prog 6 #[] w K:=
 calls_of_wpX Tryz.func6 rfl rfl rfl rfl (Eq.mpr (S_foliantlaw47_lives_eq w K) h)
def S_foliantlaw47_sample_0 (t0:Value)(w:World)(K:Ending→World→Prop):Prop:=
 RetX prog [.cell t0 50] w K
def S_foliantlaw47_sample_h1 (S1:World→Prop)(t0 t7 t9 t10:Value)(w:World)(K:Ending→World→Prop):Prop:=
 (DoX prog (mBuildS 45 1 #[(0,t7)]) w (pm1 (pm1 (pm1 (pk K)))) fun t8_1 w=>
 (DoX prog (mBuildS 46 1 #[(0,t10)]) w (pm1 (pm1 (pm1 (pk K)))) fun t11_1 w=>
 S1 w∧(HDo prog (fun _=>True) (mBuild 48 #[(0,(.int .i64 7)),(4,t9),(5,t11_1)]) fun t12_1=>
 HDo prog (fun _=>True) (mBuild 50 #[(0,t8_1),(1,t12_1)]) fun t13_1=>
 DoX prog (mStore 50 t0 t13_1) w (pm1 (pm1 (pm1 (pk K)))) fun _ w=>
 (S_foliantlaw47_sample_0 t0 w K))))∧(DoX prog (mBuildS 46 1 #[(0,t10)]) w (pm1 (pm1 (pm1 (pk K)))) fun t11_2 w=>
 S1 w∧(HDo prog (fun _=>True) (mBuild 48 #[(0,(.int .i64 7)),(4,t9),(5,t11_2)]) fun t12_2=>
 DoX prog (mBuildS 45 1 #[(0,t7)]) w (pm1 (pm1 (pm1 (pk K)))) fun t8_2 w=>
 (HDo prog (fun _=>True) (mBuild 50 #[(0,t8_2),(1,t12_2)]) fun t13_2=>
 DoX prog (mStore 50 t0 t13_2) w (pm1 (pm1 (pm1 (pk K)))) fun _ w=>
 (S_foliantlaw47_sample_0 t0 w K))))
def S_foliantlaw47_sample_h0 (S1:World→Prop)(t0 t8 t10:Value)(w:World)(K:Ending→World→Prop):Prop:=
 (DoX prog (mBuildS 23 1 #[(0,(.string ⟨#[82,111,111,116]⟩))]) w (pm1 (pm1 (pm1 (pk K)))) fun t9_1 w=>
 S1 w∧(DoX prog (mBuildS 46 1 #[(0,t10)]) w (pm1 (pm1 (pm1 (pk K)))) fun t11_1 w=>
 S1 w∧(HDo prog (fun _=>True) (mBuild 48 #[(0,(.int .i64 7)),(4,t9_1),(5,t11_1)]) fun t12_1=>
 HDo prog (fun _=>True) (mBuild 50 #[(0,t8),(1,t12_1)]) fun t13_1=>
 DoX prog (mStore 50 t0 t13_1) w (pm1 (pm1 (pm1 (pk K)))) fun _ w=>
 (S_foliantlaw47_sample_0 t0 w K))))∧(DoX prog (mBuildS 46 1 #[(0,t10)]) w (pm1 (pm1 (pm1 (pk K)))) fun t11_2 w=>
 S1 w∧(DoX prog (mBuildS 23 1 #[(0,(.string ⟨#[82,111,111,116]⟩))]) w (pm1 (pm1 (pm1 (pk K)))) fun t9_2 w=>
 S1 w∧(HDo prog (fun _=>True) (mBuild 48 #[(0,(.int .i64 7)),(4,t9_2),(5,t11_2)]) fun t12_2=>
 HDo prog (fun _=>True) (mBuild 50 #[(0,t8),(1,t12_2)]) fun t13_2=>
 DoX prog (mStore 50 t0 t13_2) w (pm1 (pm1 (pm1 (pk K)))) fun _ w=>
 (S_foliantlaw47_sample_0 t0 w K))))
def S_foliantlaw47_sample (w:World)(K:Ending→World→Prop):Prop:=
 DoX prog (mAlloc 50) w (pk K) fun t0 w=>
 DoX prog (mBuildS 23 1 #[(0,(.string ⟨#[84,121,112,101]⟩))]) w (pk K) fun t2 w=>
 CallX prog 46 #[(.string ⟨#[67,97,116,97,108,111,103]⟩)] w (pk K) fun t3 w=>
 DoX prog (mBuildS 46 1 #[(0,t3)]) w (pk K) fun t4 w=>
 DoX prog (mBuild 48 #[(0,(.int .i64 7)),(4,t2),(5,t4)]) w (pk K) fun t5 w=>
 DoX prog (mBuild 89 #[(0,(.int .i64 1)),(2,t5)]) w (pk K) fun t6 w=>
 DoX prog (mAlloc 89) w (pk K) fun t1 w=>
 DoX prog (mStore 89 t1 t6) w (pk K) fun _ w=>
 HeldX w (fun S1 w=>
 HDo prog S1 (mLoad 89 t1) fun t7=>
 (DoX prog (mBuildS 45 1 #[(0,t7)]) w (pm1 (pm1 (pm1 (pk K)))) fun t8 w=>
 ((DoX prog (mBuildS 23 1 #[(0,(.string ⟨#[82,111,111,116]⟩))]) w (pm1 (pm1 (pm1 (pk K)))) fun t9 w=>
 S1 w∧(CallX prog 47 #[(.int .i64 1),(.int .i64 0)] w (pm1 (pm1 (pm1 (pk K)))) fun t10 w=>
 S1 w∧(DoX prog (mBuildS 46 1 #[(0,t10)]) w (pm1 (pm1 (pm1 (pk K)))) fun t11 w=>
 S1 w∧(HDo prog (fun _=>True) (mBuild 48 #[(0,(.int .i64 7)),(4,t9),(5,t11)]) fun t12=>
 HDo prog (fun _=>True) (mBuild 50 #[(0,t8),(1,t12)]) fun t13=>
 DoX prog (mStore 50 t0 t13) w (pm1 (pm1 (pm1 (pk K)))) fun _ w=>
 (S_foliantlaw47_sample_0 t0 w K)))))∧(CallX prog 47 #[(.int .i64 1),(.int .i64 0)] w (pm1 (pm1 (pm1 (pk K)))) fun t10_1 w=>
 S1 w∧(S_foliantlaw47_sample_h0 S1 t0 t8 t10_1 w K))))∧(DoX prog (mBuildS 23 1 #[(0,(.string ⟨#[82,111,111,116]⟩))]) w (pm1 (pm1 (pm1 (pk K)))) fun t9_1 w=>
 S1 w∧((DoX prog (mBuildS 45 1 #[(0,t7)]) w (pm1 (pm1 (pm1 (pk K)))) fun t8_1 w=>
 (CallX prog 47 #[(.int .i64 1),(.int .i64 0)] w (pm1 (pm1 (pm1 (pk K)))) fun t10_2 w=>
 S1 w∧(DoX prog (mBuildS 46 1 #[(0,t10_2)]) w (pm1 (pm1 (pm1 (pk K)))) fun t11_1 w=>
 S1 w∧(HDo prog (fun _=>True) (mBuild 48 #[(0,(.int .i64 7)),(4,t9_1),(5,t11_1)]) fun t12_1=>
 HDo prog (fun _=>True) (mBuild 50 #[(0,t8_1),(1,t12_1)]) fun t13_1=>
 DoX prog (mStore 50 t0 t13_1) w (pm1 (pm1 (pm1 (pk K)))) fun _ w=>
 (S_foliantlaw47_sample_0 t0 w K)))))∧(CallX prog 47 #[(.int .i64 1),(.int .i64 0)] w (pm1 (pm1 (pm1 (pk K)))) fun t10_3 w=>
 S1 w∧(S_foliantlaw47_sample_h1 S1 t0 t7 t9_1 t10_3 w K))))∧(CallX prog 47 #[(.int .i64 1),(.int .i64 0)] w (pm1 (pm1 (pm1 (pk K)))) fun t10_4 w=>
 S1 w∧((DoX prog (mBuildS 45 1 #[(0,t7)]) w (pm1 (pm1 (pm1 (pk K)))) fun t8_2 w=>
 (S_foliantlaw47_sample_h0 S1 t0 t8_2 t10_4 w K))∧(DoX prog (mBuildS 23 1 #[(0,(.string ⟨#[82,111,111,116]⟩))]) w (pm1 (pm1 (pm1 (pk K)))) fun t9_2 w=>
 S1 w∧(S_foliantlaw47_sample_h1 S1 t0 t7 t9_2 t10_4 w K))∧(DoX prog (mBuildS 46 1 #[(0,t10_4)]) w (pm1 (pm1 (pm1 (pk K)))) fun t11_2 w=>
 S1 w∧((DoX prog (mBuildS 45 1 #[(0,t7)]) w (pm1 (pm1 (pm1 (pk K)))) fun t8_3 w=>
 (DoX prog (mBuildS 23 1 #[(0,(.string ⟨#[82,111,111,116]⟩))]) w (pm1 (pm1 (pm1 (pk K)))) fun t9_3 w=>
 S1 w∧(HDo prog (fun _=>True) (mBuild 48 #[(0,(.int .i64 7)),(4,t9_3),(5,t11_2)]) fun t12_2=>
 HDo prog (fun _=>True) (mBuild 50 #[(0,t8_3),(1,t12_2)]) fun t13_2=>
 DoX prog (mStore 50 t0 t13_2) w (pm1 (pm1 (pm1 (pk K)))) fun _ w=>
 (S_foliantlaw47_sample_0 t0 w K))))∧(DoX prog (mBuildS 23 1 #[(0,(.string ⟨#[82,111,111,116]⟩))]) w (pm1 (pm1 (pm1 (pk K)))) fun t9_4 w=>
 S1 w∧(HDo prog (fun _=>True) (mBuild 48 #[(0,(.int .i64 7)),(4,t9_4),(5,t11_2)]) fun t12_3=>
 DoX prog (mBuildS 45 1 #[(0,t7)]) w (pm1 (pm1 (pm1 (pk K)))) fun t8_4 w=>
 (HDo prog (fun _=>True) (mBuild 50 #[(0,t8_4),(1,t12_3)]) fun t13_3=>
 DoX prog (mStore 50 t0 t13_3) w (pm1 (pm1 (pm1 (pk K)))) fun _ w=>
 (S_foliantlaw47_sample_0 t0 w K)))))))))
theorem S_foliantlaw47_sample_eq (w:World)(K:Ending→World→Prop):wpX prog 14 [] [] none (bodyOf Tryz.f22) (topQ prog [.cell 0 50] K) (startX []) [] w=S_foliantlaw47_sample w K:=by kernel_rfl
theorem S_foliantlaw47_sample_ok {w:World}{K:Ending→World→Prop}(h:S_foliantlaw47_sample w K):Calls prog 22 #[] w K:=
 calls_of_wpX Tryz.func22 rfl rfl rfl rfl (Eq.mpr (S_foliantlaw47_sample_eq w K) h)
def S_foliantlaw47_light_1 (t1 t3 t5:Value)(w:World)(N2:List Value→World→Prop)(K:Ending→World→Prop):Prop:=
 DoX prog (mFA 26 t1 6) w (pk K) fun t25 w=>
 DoX prog (mLoad 24 t25) w (pk K) fun t26 w=>
 DoX prog (mB .len #[24] 3 #[false] #[t26]) w (pk K) fun t27 w=>
 DoX prog (mBin .lss 3 t5 t27) w (pk K) fun t28 w=>
 IfX t28 (DoX prog (mFA 26 t1 6) w (pk K) fun t32 w=>
 DoX prog (mLoad 24 t32) w (pk K) fun t33 w=>
 DoX prog (mIA 24 t33 t5) w (pk K) fun t35 w=>
 DoX prog (mFA 44 t35 1) w (pk K) fun t36 w=>
 DoX prog (mLoad 9 t36) w (pk K) fun t37 w=>
 DoX prog (mB .len #[9] 3 #[false] #[t37]) w (pk K) fun t38 w=>
 DoX prog (mBin .add 3 t3 t38) w (pk K) fun t39 w=>
 DoX prog (mBin .add 3 t5 (.int .i64 1)) w (pk K) fun t30 w=>
 N2 [t39,t30] w) (DoX prog (mBin .leq 3 t3 (.int .i64 6000)) w (pk K) fun t41 w=>
 GDo t41 true (fun E=>DoX prog (mFA 26 t1 5) w (pk K) E) w fun t43 w=>
 GDo t41 true (fun E=>DoX prog (mLoad 23 t43) w (pk K) E) w fun t44 w=>
 GDo t41 true (fun E=>DoX prog (mB .len #[23] 3 #[false] #[t44]) w (pk K) E) w fun t45 w=>
 GDo t41 true (fun E=>DoX prog (mBin .leq 3 t45 (.int .i64 300)) w (pk K) E) w fun t46 w=>
 DoX prog (mPick t41 t46 (.bool false)) w (pk K) fun t47 w=>
 GDo t47 true (fun E=>DoX prog (mFA 26 t1 6) w (pk K) E) w fun t49 w=>
 GDo t47 true (fun E=>DoX prog (mLoad 24 t49) w (pk K) E) w fun t50 w=>
 GDo t47 true (fun E=>DoX prog (mB .len #[24] 3 #[false] #[t50]) w (pk K) E) w fun t51 w=>
 GDo t47 true (fun E=>DoX prog (mBin .leq 3 t51 (.int .i64 300)) w (pk K) E) w fun t52 w=>
 DoX prog (mPick t47 t52 (.bool false)) w (pk K) fun t53 w=>
 GDo t53 true (fun E=>DoX prog (mFA 26 t1 3) w (pk K) E) w fun t55 w=>
 GDo t53 true (fun E=>DoX prog (mLoad 22 t55) w (pk K) E) w fun t56 w=>
 GDo t53 true (fun E=>DoX prog (mB .len #[22] 3 #[false] #[t56]) w (pk K) E) w fun t57 w=>
 GDo t53 true (fun E=>DoX prog (mBin .leq 3 t57 (.int .i64 5000)) w (pk K) E) w fun t58 w=>
 DoX prog (mPick t53 t58 (.bool false)) w (pk K) fun t59 w=>
 K (.returned t59) w)
def S_foliantlaw47_light_0 (t1 t3 t4:Value)(w:World)(N1:List Value→World→Prop)(K:Ending→World→Prop):Prop:=
 DoX prog (mFA 26 t1 5) w (pk K) fun t10 w=>
 DoX prog (mLoad 23 t10) w (pk K) fun t11 w=>
 DoX prog (mB .len #[23] 3 #[false] #[t11]) w (pk K) fun t12 w=>
 DoX prog (mBin .lss 3 t4 t12) w (pk K) fun t13 w=>
 IfX t13 (DoX prog (mFA 26 t1 5) w (pk K) fun t17 w=>
 DoX prog (mLoad 23 t17) w (pk K) fun t18 w=>
 DoX prog (mIA 23 t18 t4) w (pk K) fun t20 w=>
 DoX prog (mLoad 9 t20) w (pk K) fun t21 w=>
 DoX prog (mB .len #[9] 3 #[false] #[t21]) w (pk K) fun t22 w=>
 DoX prog (mBin .add 3 t3 t22) w (pk K) fun t23 w=>
 DoX prog (mBin .add 3 t4 (.int .i64 1)) w (pk K) fun t15 w=>
 N1 [t23,t15] w) (LoopX [t3,(.int .i64 0)] w (fun vs2 w N2=>∀_:Sg,S_foliantlaw47_light_1 t1 (vs2.getD 0 undef) (vs2.getD 1 undef) w N2 K))
def S_foliantlaw47_light (t0:Value)(w:World)(K:Ending→World→Prop):Prop:=
 DoX prog (mBox 26 t0) w (pk K) fun t1 w=>
 DoX prog (mFA 26 t1 0) w (pk K) fun t6 w=>
 DoX prog (mLoad 9 t6) w (pk K) fun t7 w=>
 DoX prog (mB .len #[9] 3 #[false] #[t7]) w (pk K) fun t8 w=>
 LoopX [t8,(.int .i64 0)] w (fun vs1 w N1=>∀_:Sg,S_foliantlaw47_light_0 t1 (vs1.getD 0 undef) (vs1.getD 1 undef) w N1 K)
theorem S_foliantlaw47_light_eq (t0:Value)(w:World)(K:Ending→World→Prop):wpX prog 60 [] [(3,[3,4]),(7,[3,5])] none (bodyOf Tryz.f5) (topQ prog [.tmp 2] K) (startX [t0]) [] w=S_foliantlaw47_light t0 w K:=by kernel_rfl
theorem S_foliantlaw47_light_ok {t0:Value}{w:World}{K:Ending→World→Prop}(h:S_foliantlaw47_light t0 w K):Calls prog 5 #[t0] w K:=
 calls_of_wpX Tryz.func5 rfl rfl rfl rfl (Eq.mpr (S_foliantlaw47_light_eq t0 w K) h)
def S_foliantlaw47_FontTells (t0 t1 t2 t3:Value)(w:World)(K:Ending→World→Prop):Prop:=
 DoX prog (mBox 26 t0) w (pk K) fun t4 w=>
 DoX prog (mLoad 26 t4) w (pk K) fun t13 w=>
 CallX prog 5 #[t13] w (pk K) fun t14 w=>
 DoX prog (mUn .not t14) w (pk K) fun t15 w=>
 GDo t15 false (fun E=>E t2 w) w fun t17 w=>
 GDo t15 false (fun E=>DoX prog (mB .len #[9] 3 #[false] #[t17]) w (pk K) E) w fun t18 w=>
 GDo t15 false (fun E=>DoX prog (mBin .gtr 3 t18 (.int .i64 500)) w (pk K) E) w fun t19 w=>
 DoX prog (mPick t15 (.bool true) t19) w (pk K) fun t20 w=>
 GDo t20 false (fun E=>E t3 w) w fun t22 w=>
 GDo t20 false (fun E=>DoX prog (mB .len #[9] 3 #[false] #[t22]) w (pk K) E) w fun t23 w=>
 GDo t20 false (fun E=>DoX prog (mBin .gtr 3 t23 (.int .i64 500)) w (pk K) E) w fun t24 w=>
 DoX prog (mPick t20 (.bool true) t24) w (pk K) fun t25 w=>
 IfX t25 (CallX prog 6 #[] w (pk K) fun t26 w=>
 K (.returned t26) w) (DoX prog (mLoad 26 t4) w (pk K) fun t28 w=>
 CallX prog 7 #[t28,t2] w (pk K) fun t30 w=>
 DoX prog (mExt t30 0) w (pk K) fun t31 w=>
 DoX prog (mExt t30 1) w (pk K) fun t32 w=>
 DoX prog (mLoad 26 t4) w (pk K) fun t34 w=>
 CallX prog 8 #[t34,t2] w (pk K) fun t36 w=>
 DoX prog (mExt t36 0) w (pk K) fun t37 w=>
 DoX prog (mExt t36 1) w (pk K) fun t38 w=>
 QuietX w (fun C1=>
 QCall prog C1 9 #[t31,t37] fun t41=>
 GQ t41 true (fun E=>E t32) fun t43=>
 GQ t41 true (fun E=>E t38) fun t44=>
 GQ t41 true (fun E=>QDo prog C1 (mEq .eql 30 (.tmp 43) (.tmp 44) t43 t44) E) fun t45=>
 QDo prog C1 (mPick t41 t45 (.bool false)) fun t46=>
 GQ t46 true (fun E=>QDo prog C1 (mLoad 26 t4) E) fun t48=>
 GQ t46 true (fun E=>E t1) fun t49=>
 GQ t46 true (fun E=>QCall prog C1 10 #[t48,t49] E) fun t50=>
 GQ t46 true (fun E=>QDo prog C1 (mLoad 26 t4) E) fun t51=>
 GQ t46 true (fun E=>E t1) fun t52=>
 GQ t46 true (fun E=>QCall prog C1 11 #[t51,t52] E) fun t53=>
 GQ t46 true (fun E=>QDo prog C1 (mEq .eql 2 (.tmp 50) (.tmp 53) t50 t53) E) fun t54=>
 QDo prog C1 (mPick t46 t54 (.bool false)) fun t55=>
 GQ t55 true (fun E=>QDo prog C1 (mLoad 26 t4) E) fun t57=>
 GQ t55 true (fun E=>E t1) fun t58=>
 GQ t55 true (fun E=>QCall prog C1 12 #[t57,t58] E) fun t59=>
 GQ t55 true (fun E=>QDo prog C1 (mLoad 26 t4) E) fun t60=>
 GQ t55 true (fun E=>E t1) fun t61=>
 GQ t55 true (fun E=>QCall prog C1 13 #[t60,t61] E) fun t62=>
 GQ t55 true (fun E=>QDo prog C1 (mEq .eql 9 (.tmp 59) (.tmp 62) t59 t62) E) fun t63=>
 QDo prog C1 (mPick t55 t63 (.bool false)) fun t64=>
 GQ t64 true (fun E=>E t3) fun t66=>
 GQ t64 true (fun E=>QCall prog C1 14 #[t66] E) fun t67=>
 GQ t64 true (fun E=>E t3) fun t68=>
 GQ t64 true (fun E=>QCall prog C1 15 #[t68] E) fun t69=>
 GQ t64 true (fun E=>QDo prog C1 (mEq .eql 9 (.tmp 67) (.tmp 69) t67 t69) E) fun t70=>
 QDo prog C1 (mPick t64 t70 (.bool false)) fun t71=>
 GQ t71 true (fun E=>QDo prog C1 (mLoad 26 t4) E) fun t73=>
 GQ t71 true (fun E=>QCall prog C1 16 #[t73] E) fun t74=>
 GQ t71 true (fun E=>QDo prog C1 (mLoad 26 t4) E) fun t75=>
 GQ t71 true (fun E=>QCall prog C1 17 #[t75] E) fun t76=>
 GQ t71 true (fun E=>QDo prog C1 (mEq .eql 30 (.tmp 74) (.tmp 76) t74 t76) E) fun t77=>
 QDo prog C1 (mPick t71 t77 (.bool false)) fun t78=>
 ∀w,C1 w →
 GDo t78 true (fun E=>CallX prog 19 #[] w (pk K) E) w fun t80 w=>
 GDo t78 true (fun E=>CallX prog 20 #[] w (pk K) E) w fun t81 w=>
 GDo t78 true (fun E=>CallX prog 18 #[t80,t81] w (pk K) E) w fun t82 w=>
 DoX prog (mPick t78 t82 (.bool false)) w (pk K) fun t83 w=>
 GDo t83 true (fun E=>CallX prog 6 #[] w (pk K) E) w fun t85 w=>
 DoX prog (mPick t83 t85 (.bool false)) w (pk K) fun t86 w=>
 K (.returned t86) w))
theorem S_foliantlaw47_FontTells_eq (t0 t1 t2 t3:Value)(w:World)(K:Ending→World→Prop):wpX prog 87 [] [] none (bodyOf Tryz.f3) (topQ prog [.tmp 8] K) (startX [t0,t1,t2,t3]) [] w=S_foliantlaw47_FontTells t0 t1 t2 t3 w K:=by kernel_rfl
theorem S_foliantlaw47_FontTells_ok {t0 t1 t2 t3:Value}{w:World}{K:Ending→World→Prop}(h:S_foliantlaw47_FontTells t0 t1 t2 t3 w K):Calls prog 3 #[t0,t1,t2,t3] w K:=
 calls_of_wpX Tryz.func3 rfl rfl rfl rfl (Eq.mpr (S_foliantlaw47_FontTells_eq t0 t1 t2 t3 w K) h)
end
section
namespace Eng
open Go.RowKit
def Mem.up (M:Mem)(w w':World)(h:M.has w'):Mem:=⟨fun b=>M.A b∨(w.heap.size≤b∧b < w'.heap.size),w',fun b hb=>hb.elim (fun h'=>Mem.bd h h') (fun h'=>h'.2)⟩
section
variable {M:Mem}{w w':World}{L:List Ent}
theorem gives_up (hM:M.has w)(ho:OwnS M.A w w' L)(h:M.has w'):Gives M w w' (M.up w w' h):=by
 refine⟨⟨fun b hb=>.inl hb,h⟩,fun b _=>rfl,fun b hb=>hb.elim .inl fun x=>.inr x.1,ho.grew.os,ho.grew.tape,ho.grew.output,ho.grew.size,fun k hk=>?_⟩;by_cases hA:M.A k
 ·rw[hM k hA];exact h k hA
 ·exact ho.grew.block k hk hA
theorem sla_up (ho:OwnS M.A w w' L)(h:M.has w'){b:Nat}{cs:List Value}{T:TypeId}(hb:Ent.cells b cs T∈L)(sz n:Nat)(hn:cs.length=n*sz):SlA (M.up w w' h).A (M.up w w' h).w (.slice (some ⟨b,0,none⟩) n n) sz n cs:=by
 obtain⟨h1,h2⟩:=ho.all _ hb;refine⟨Sl.cells h1 sz n n hn,fun p l c e _=>?_,fun a l c e=>by injection e with _ e2 e3;omega⟩;cases e;rcases h2 b rfl with h3|h3
 ·exact .inl h3
 ·exact .inr ⟨h3,(Ent.cells b cs T).lt h1 b rfl⟩
end
end Eng
end
section
open Eng Go.RowKit
theorem ov_arr1 {M:Mem}{o:Ob}{k:List UInt8}{kv kc:Value}{cs:List Value}(hk:SlA M.A M.w kv 1 1 [.string ⟨k.toArray⟩])(hc:SlA M.A M.w kc 6 1 cs)(h:OVs M.A M.w cs [o]):OV M.A M.w (obV (.mk 7 0 0 [] [k] [o]) kv kc) (.mk 7 0 0 [] [k] [o]):=
 ObAt.ov (o:=.mk 7 0 0 [] [k] [o]) (cs:=cs) ⟨hk,hc,h⟩
def Lb.catK:List UInt8:=[67,97,116,97,108,111,103]
def Lb.catO:Ob:=ob1 5 0 0 Lb.catK
def Lb.rootO:Ob:=.mk 7 0 0 [] [Dk.typeK] [Lb.catO]
def Lb.itS:It:=⟨1,0,Lb.rootO⟩
def Lb.refO:Ob:=ob1 8 1 0 []
def Lb.trS:Ob:=.mk 7 0 0 [] [Dk.rootK] [Lb.refO]
def Lb.docS:Dc:=⟨[Lb.itS],Lb.trS⟩
abbrev slc1 (b:Nat):Value:=.slice (some ⟨b,0,none⟩) 1 1
def Sx (M:Mem)(w:World)(b0 b1 bK bO:Nat)(W:World)(a b c:Option Nat):Prop:=
 ∃L,OwnS M.A w W (L++[itE b1 Lb.itS (slc1 bK) (slc1 bO),dcE b0 Dk.dc0 nilS nilS nilS,obE bO Lb.catO nilS nilS,.cells bK [.string ⟨Dk.typeK.toArray⟩] 9,.mem M]) ∧
  (∀x,a=some x→itE x Lb.itS (slc1 bK) (slc1 bO)∈L)∧(∀x,b=some x→Ent.cells x [.string ⟨Dk.rootK.toArray⟩] 9∈L)∧(∀x,c=some x→obE x Lb.refO nilS nilS∈L)
def SxS (M:Mem)(w:World)(b0 b1 bK bO:Nat):World→Prop:=fun W=>∃L,OwnS M.A w W (L++[itE b1 Lb.itS (slc1 bK) (slc1 bO),dcE b0 Dk.dc0 nilS nilS nilS,obE bO Lb.catO nilS nilS,.cells bK [.string ⟨Dk.typeK.toArray⟩] 9,.mem M])
section
variable {M:Mem}{w W:World}{b0 b1 bK bO:Nat}{a b c:Option Nat}{PK:PKT}{K:VWP}
theorem sx_s (h:Sx M w b0 b1 bK bO W a b c):SxS M w b0 b1 bK bO W:=by obtain⟨L,h,_⟩:=h;exact⟨L,h⟩
theorem sxA (h:Sx M w b0 b1 bK bO W none b c)(k:∀x W',Sx M w b0 b1 bK bO W' (some x) b c→K (slc1 x) W'):DoX prog (mBuildS 45 1 #[(0,itV Lb.itS (slc1 bK) (slc1 bO))]) W PK K:=by
 obtain⟨L,ho,h1,h2,h3⟩:=h;refine o_its1 Lb.itS rfl rfl ho fun x W' ho=>k x W' ⟨itE x Lb.itS (slc1 bK) (slc1 bO)::L,ho,fun y hy=>?_,fun y hy=>List.mem_cons_of_mem _ (h2 y hy),fun y hy=>List.mem_cons_of_mem _ (h3 y hy)⟩;cases hy;exact List.mem_cons_self ..
theorem sxB (h:Sx M w b0 b1 bK bO W a none c)(k:∀x W',Sx M w b0 b1 bK bO W' a (some x) c→K (slc1 x) W'):DoX prog (mBuildS 23 1 #[(0,(.string ⟨#[82,111,111,116]⟩))]) W PK K:=by
 obtain⟨L,ho,h1,h2,h3⟩:=h;refine o_strb1 Dk.rootK ho fun x W' ho=>k x W' ⟨Ent.cells x [.string ⟨Dk.rootK.toArray⟩] 9::L,ho,fun y hy=>List.mem_cons_of_mem _ (h1 y hy),fun y hy=>?_,fun y hy=>List.mem_cons_of_mem _ (h3 y hy)⟩;cases hy;exact List.mem_cons_self ..
theorem sxC (h:Sx M w b0 b1 bK bO W a b none)(k:∀x W',Sx M w b0 b1 bK bO W' a b (some x)→K (slc1 x) W'):DoX prog (mBuildS 46 1 #[(0,obV Lb.refO nilS nilS)]) W PK K:=by
 obtain⟨L,ho,h1,h2,h3⟩:=h;refine o_obs1 Lb.refO rfl rfl ho fun x W' ho=>k x W' ⟨obE x Lb.refO nilS nilS::L,ho,fun y hy=>List.mem_cons_of_mem _ (h1 y hy),fun y hy=>List.mem_cons_of_mem _ (h2 y hy),fun y hy=>?_⟩;cases hy;exact List.mem_cons_self ..
theorem sxR (h:Sx M w b0 b1 bK bO W a b c)(k:∀W',Sx M w b0 b1 bK bO W' a b c→K (obV Lb.refO nilS nilS) W'):CallX prog 47 #[(.int .i64 1),(.int .i64 0)] W PK K:=by
 obtain⟨L,ho,h1,h2,h3⟩:=h;refine c_below ho (R:=fun v=>v=obV Lb.refO nilS nilS) (rref05_ret 1 0 W) ?_;rintro _ W' rfl ho;exact k W' ⟨L,ho,h1,h2,h3⟩
theorem sxT {x y:Nat}{S:World→Prop}{K:Value→Prop}(k:K (obV Lb.trS (slc1 x) (slc1 y))):HDo prog S (mBuild 48 #[(0,(.int .i64 7)),(4,slc1 x),(5,slc1 y)]) K:=⟨_,fun _ _=>by kernel_rfl,k⟩
theorem sxD {x y z:Nat}{S:World→Prop}{K:Value→Prop}(k:K (dcV Lb.docS (slc1 x) (slc1 y) (slc1 z))):HDo prog S (mBuild 50 #[(0,slc1 x),(1,obV Lb.trS (slc1 y) (slc1 z))]) K:=⟨_,fun _ _=>by kernel_rfl,k⟩
end
theorem sample47_ret0 (M:Mem)(w:World)(hM:M.has w):RetM prog 22 #[] M w (fun r N=>DV N.A N.w r Lb.docS):=by
 refine ret_of fun K hK=>S_foliantlaw47_sample_ok ?_;unfold S_foliantlaw47_sample S_foliantlaw47_sample_h0 S_foliantlaw47_sample_h1;refine o_dca (OwnS.memS hM) fun b0 w1 ho=>?_;refine o_strb1 Dk.typeK ho fun bK w2 ho=>?_;refine c_below ho (R:=fun v=>v=obV Lb.catO nilS nilS) (rkey05_ret Lb.catK w2) ?_;rintro _ w3 rfl ho;refine o_obs1 Lb.catO rfl rfl ho fun bO w4 ho=>?_;have m1:∀{PK:PKT} {K:VWP},DoX prog (mBuild 48 #[(0,(.int .i64 7)),(4,slc1 bK),(5,slc1 bO)]) w4 PK K=K (obV Lb.rootO (slc1 bK) (slc1 bO)) w4:=do_eq (by kernel_rfl);have m2:∀{PK:PKT} {K:VWP},DoX prog (mBuild 89 #[(0,(.int .i64 1)),(2,obV Lb.rootO (slc1 bK) (slc1 bO))]) w4 PK K=K (itV Lb.itS (slc1 bK) (slc1 bO)) w4:=do_eq (by kernel_rfl);rw[m1,m2];refine o_ita ho fun b1 w5 ho=>?_;refine it_put (i':=Lb.itS) (vk':=slc1 bK) (vc':=slc1 bO) 0 rfl rfl ho rfl fun w6 ho=>?_;have ho:OwnS M.A w w6 [itE b1 Lb.itS (slc1 bK) (slc1 bO),obE bO Lb.catO nilS nilS,.cells bK [.string ⟨Dk.typeK.toArray⟩] 9,dcE b0 Dk.dc0 nilS nilS nilS,.mem M]:=ho;have ho:OwnS M.A w w6 [itE b1 Lb.itS (slc1 bK) (slc1 bO),dcE b0 Dk.dc0 nilS nilS nilS,obE bO Lb.catO nilS nilS,.cells bK [.string ⟨Dk.typeK.toArray⟩] 9,.mem M]:=
  ho.perm (List.Perm.cons _ (List.perm_middle (l₁:=[obE bO Lb.catO nilS nilS,.cells bK [.string ⟨Dk.typeK.toArray⟩] 9]) (l₂:=[.mem M])))
 have hst:Sx M w b0 b1 bK bO w6.drew none none none:=⟨[],ho.drew,(fun _ h=>by cases h),(fun _ h=>by cases h),(fun _ h=>by cases h)⟩;refine⟨SxS M w b0 b1 bK bO,sx_s hst,?_⟩;refine⟨itV Lb.itS (slc1 bK) (slc1 bO),fun W' ⟨L,h⟩=>run_load_at (AtV.agg aggIt rfl fun j v hj=>by simpa using cells_cell (h.mem (e:=itE b1 Lb.itS (slc1 bK) (slc1 bO)) (by simp)) hj),?_⟩;have fin:∀(W:World) (x y z:Nat),Sx M w b0 b1 bK bO W (some x) (some y) (some z)→∀(PK:PKT),DoX prog (mStore 50 (.pointer (some ⟨b0,0,none⟩)) (dcV Lb.docS (slc1 x) (slc1 y) (slc1 z))) W PK fun _ W=>S_foliantlaw47_sample_0 (.pointer (some ⟨b0,0,none⟩)) W K:=by
  rintro W x y z ⟨L,ho,h1,h2,h3⟩ PK;have ho:=ho.perm (L':=dcE b0 Dk.dc0 nilS nilS nilS::(L++[itE b1 Lb.itS (slc1 bK) (slc1 bO),obE bO Lb.catO nilS nilS,.cells bK [.string ⟨Dk.typeK.toArray⟩] 9,.mem M])) (by
   rw[show L++[itE b1 Lb.itS (slc1 bK) (slc1 bO),dcE b0 Dk.dc0 nilS nilS nilS,obE bO Lb.catO nilS nilS,.cells bK [.string ⟨Dk.typeK.toArray⟩] 9,.mem M]=(L++[itE b1 Lb.itS (slc1 bK) (slc1 bO)])++dcE b0 Dk.dc0 nilS nilS nilS::[obE bO Lb.catO nilS nilS,.cells bK [.string ⟨Dk.typeK.toArray⟩] 9,.mem M] by simp];refine List.perm_middle.trans ?_;simp)
  refine dc_put (d':=Lb.docS) (vi':=slc1 x) (vk':=slc1 y) (vc':=slc1 z) 0 rfl rfl rfl ho rfl fun W' ho=>?_;unfold S_foliantlaw47_sample_0;have hm:M.has W':=ho.mem (e:=.mem M) (by simp);refine ret_dc 0 ho rfl (hK _ _ ⟨M.up w W' hm,gives_up hM ho hm,?_⟩);have sK:=sla_up ho hm (b:=bK) (cs:=[.string ⟨Dk.typeK.toArray⟩]) (T:=9) (by simp) 1 1 rfl;have sO:=sla_up ho hm (b:=bO) (cs:=obC Lb.catO nilS nilS) (T:=48) (List.mem_cons_of_mem _ (List.mem_append_right _ (by simp[obE]))) 6 1 rfl;have sx:=sla_up ho hm (b:=x) (cs:=itC Lb.itS (slc1 bK) (slc1 bO)) (T:=89) (List.mem_cons_of_mem _ (List.mem_append_left _ (h1 x rfl))) 8 1 rfl;have sy:=sla_up ho hm (b:=y) (cs:=[.string ⟨Dk.rootK.toArray⟩]) (T:=9) (List.mem_cons_of_mem _ (List.mem_append_left _ (h2 y rfl))) 1 1 rfl;have sz:=sla_up ho hm (b:=z) (cs:=obC Lb.refO nilS nilS) (T:=48) (List.mem_cons_of_mem _ (List.mem_append_left _ (h3 z rfl))) 6 1 rfl;have o1:OV (M.up w W' hm).A (M.up w W' hm).w (obV Lb.rootO (slc1 bK) (slc1 bO)) Lb.rootO:=ov_arr1 sK sO (by have:=ovs_cons (A:=(M.up w W' hm).A) (w:=(M.up w W' hm).w) (ov_plain 5 0 0 Lb.catK) OVs.nil;rwa [List.append_nil] at this);have o2:OV (M.up w W' hm).A (M.up w W' hm).w (obV Lb.trS (slc1 y) (slc1 z)) Lb.trS:=ov_arr1 sy sz (by have:=ovs_cons (A:=(M.up w W' hm).A) (w:=(M.up w W' hm).w) (ov_plain 8 1 0 []) OVs.nil;rwa [List.append_nil] at this);exact⟨slc1 x,slc1 y,slc1 z,itC Lb.itS (slc1 bK) (slc1 bO),rfl,sx,ivs_1 o1,o2⟩
 clear hK ho
 repeat' (first
 |exact sx_s (by assumption)|exact fin _ _ _ _ (by assumption) _
 |refine And.intro ?_ ?_
 |refine sxA (by assumption) fun _ _ _=>?_
 |refine sxB (by assumption) fun _ _ _=>?_
 |refine sxC (by assumption) fun _ _ _=>?_
 |refine sxR (by assumption) fun _ _=>?_
 |refine sxT ?_
 |refine sxD ?_)
theorem sample47_ret (M:Mem)(w:World)(hM:M.has w):RetM prog 22 #[] M w (fun r N=>DV N.A N.w r Fo.smpD):=sample47_ret0 M w hM
end
section
open Eng Go.RowKit
theorem int_at47 {M:Mem}{v:Value}{l:List Int}(hs:SlA M.A M.w v 1 l.length (intsW l)){i:Nat}(hi:i < l.length) :
  ∃p,(∀W,(mIA 29 v (.int .i64 (i:Int))).run prog W=.ok (.value (.pointer (some p))) W)∧∀W,M.has W→(mLoad 3 (.pointer (some p))).run prog W=.ok (.value (.int .i64 l[i])) W:=by
 obtain⟨b,off,cap,rfl,_⟩:=sl_open hs.1 (by omega);refine⟨⟨b,off+i,none⟩,fun W=>?_,fun W hk=>?_⟩
 ·have:=run_ia (P:=prog) (T:=29) (b:=b) (off:=off) (cap:=cap) (n:=l.length) (k:=.i64) (i:=(i:Int)) (w:=W) Tryz.underlying29 (show _=some 1 by kernel_rfl) (by omega) (by omega);rw[Int.toNat_natCast,Nat.mul_one] at this;exact this
 ·obtain⟨b',off',cap',he,hc⟩:=sl_open (hs.now hk) (by omega);cases he;exact run_load_cell nInt5 (hc i _ (intsW_get hi))
theorem rsame10_ret (l:List Int)(va vb:Value)(M:Mem)(w:World)(hl:l.length≤1000000000)(hM:M.has w)(ha:SlA M.A M.w va 1 l.length (intsW l))(hb:SlA M.A M.w vb 1 l.length (intsW l)) :
  RetM prog 9 #[va,vb] M w (fun r _=>r=.bool true):=by
 refine retM_of hM fun K hK=>S_foliantref10_Same_ok ?_;unfold S_foliantref10_Same;rw[sl_len Tryz.underlying29 (ha.now hM),sl_len Tryz.underlying29 (hb.now hM)];simp only[rs,ne_eq,not_true_eq_false,decide_false,i_f];refine loop (fun vs W=>∃(i:Nat),vs=[.int .i64 (i:Int)]∧i≤l.length∧OwnS M.A w W [.mem M]) (fun vs _=>l.length - n0 vs) ⟨0,rfl,by omega,OwnS.memS hM⟩ ?_;rintro vs w2 ⟨i,rfl,hi,ho⟩ _;simp only[S_foliantref10_Same_0,gd];rw[sl_len Tryz.underlying29 (ha.now (ho.hasM 0 rfl))]
 try simp only[rs]
 by_cases hlt:(i:Int) < (l.length:Int)
 ·simp only[decide_eq_true hlt,rs];rw[sl_len Tryz.underlying29 (hb.now (ho.hasM 0 rfl))];simp only[rs,decide_eq_true hlt,i_t];have hi':i < l.length:=by omega
  obtain⟨p,ip,lp⟩:=int_at47 ha hi';obtain⟨q,iq,lq⟩:=int_at47 hb hi';refine quiet ?_;refine q_do _ ip (q_at _ (fun W hg=>lp W ((ho.grow hg).hasM 0 rfl)) (q_do _ iq (q_at _ (fun W hg=>lq W ((ho.grow hg).hasM 0 rfl)) (q_ne ?_))));intro w3 hg;simp only[ne_eq,not_true_eq_false,decide_false,i_f]
  try simp only[rs]
  rw[wrap64_id (by omega) (by omega)];exact nextX ⟨i+1,rfl,by omega,ho.grow hg⟩ (by simp[n0,RowKit.intOf];omega)
 simp only[decide_eq_false hlt,rs,g_un,i_f];exact hK _ _ M _ 0 ho rfl M.le_refl rfl
end
section
open Eng Go.RowKit
def Fo.fw:Ft:=⟨[],true,0,[],0,[],[]⟩
theorem ft0_at (M:Mem)(n:List UInt8)(q:Bool)(a m:Int):FtAt M ⟨n,q,a,[],m,[],[]⟩ nilS nilS nilS:=⟨SlA.nil _ _ _ _,SlA.nil _ _ _ _,SlA.nil _ _ _ _⟩
theorem lives47_0 {M N:Mem}{w W:World}{K:Ending→World→Prop}{b1 b2 b3:Nat}{vi tk tc wv:Value}{ics:List Value}(hut:UtM M)(hsp:SpM M)(hle:M.le N)(hda:DocAt N.A N.w Fo.smpD1 vi tk tc ics)(hft:FtAt N Fo.smpF wv nilS nilS)
  (ho:OwnS M.A w W [dcE b2 Fo.smpD1 vi tk tc,obE b3 Fo.ref2 nilS nilS,ftE b1 Fo.smpF wv nilS nilS,.mem N]) (hK:∀(W':World) (N':Mem) (L:List Ent) (i:Nat),OwnS M.A w W' L→L[i]?=some (.mem N')→M.le N'→K (.returned (.bool true)) W') :
  S_foliantlaw47_lives_0 (.pointer (some ⟨b1,0,none⟩)) (.pointer (some ⟨b2,0,none⟩)) (.pointer (some ⟨b3,0,none⟩)) (.int .i64 0) W K:=by
 unfold S_foliantlaw47_lives_0;rw[dc_v ho 0 rfl,ob_v ho 1 rfl];have hrd:Fo.readF Fo.smpD1 (Dk.follow Fo.smpD1 Fo.ref2) (Fo.val Fo.smpD1 (Dk.follow Fo.smpD1 Fo.ref2) Fo.kBase).s=Fo.smpF:=by rw[Fo.smp_follow,Fo.smp_base];exact Fo.smp_read
 have h1:=fread47_ret Fo.smpD1 Fo.ref2 (dcV Fo.smpD1 vi tk tc) (obV Fo.ref2 nilS nilS) N W (hut.le hle) (by rw[Fo.smp_follow];exact Fo.smp_reads) (by decide) (ho.hasM 3 rfl) hda.dv (ob1_ovM N 8 2 0 []);rw[hrd] at h1;refine c_mem ho 3 rfl h1 ?_;rintro _ N2 w2 l2 ⟨wv2,rfl,hft2⟩ ho;simp only[ex];refine o_fta ho fun b5 w3 ho=>?_;refine ft_put 0 (g:=Fo.smpF) hft2.ws.one rfl rfl ho rfl fun w4 ho=>?_;have ho:OwnS M.A w w4 [ftE b5 Fo.smpF wv2 nilS nilS,dcE b2 Fo.smpD1 vi tk tc,obE b3 Fo.ref2 nilS nilS,ftE b1 Fo.smpF wv nilS nilS,.mem N2]:=ho;refine do_val (ftV Fo.fw nilS nilS nilS) (by kernel_rfl) ?_;refine c_mem ho 4 rfl (fcodes47_ret Fo.fw [1,2] nilS nilS nilS N2 w4 (by decide) (ho.hasM 4 rfl) (ft0_at _ _ _ _ _)) ?_;rintro _ N3 w5 l3 ⟨c1,rfl,hc1⟩ ho;rw[show Fo.codes Fo.fw [1,2]=([258],0) by decide] at hc1 ⊢;simp only[ex];refine do_val (ftV Fo.fw nilS nilS nilS) (by kernel_rfl) ?_;refine c_mem ho 4 rfl (fcodes47_ret Fo.fw [97] nilS nilS nilS N3 w5 (by decide) (ho.hasM 4 rfl) (ft0_at _ _ _ _ _)) ?_;rintro _ N4 w6 l4 ⟨c2,rfl,hc2⟩ ho;rw[show Fo.codes Fo.fw [97]=([],3) by decide] at hc2 ⊢;simp only[ex];refine c_mem ho 4 rfl (sample47_ret N4 w6 (ho.hasM 4 rfl)) ?_;intro sv N5 w7 l5 hsv ho;refine c_below ho (R:=fun v=>v=obV (ob1 0 0 0 []) nilS nilS) (rnull_ret w7) ?_;rintro _ w8 rfl ho;refine c_mem ho 4 rfl (fread47_f Fo.smpD (ob1 0 0 0 []) sv _ N5 w8 Fo.smpD_ok (by decide) (by decide) (by decide) (ho.hasM 4 rfl) hsv (ob1_ovM N5 0 0 0 [])) ?_;rintro _ N6 w9 l6 rfl ho;simp only[ex];refine o_fta ho fun b11 w10 ho=>?_;refine ft_put 0 (g:=Fo.f0 []) rfl rfl rfl ho rfl fun w11 ho=>?_;have l26:=((l3.trans l4).trans l5).trans l6;have hl6:=hle.trans (l2.trans l26);have ho:OwnS M.A w w11 [ftE b11 (Fo.f0 []) nilS nilS nilS,ftE b5 Fo.smpF wv2 nilS nilS,dcE b2 Fo.smpD1 vi tk tc,obE b3 Fo.ref2 nilS nilS,ftE b1 Fo.smpF wv nilS nilS,.mem N6]:=ho;refine c_mem ho 5 rfl (usual47_ret N6 w11 (hsp.le hl6) (ho.hasM 5 rfl)) ?_;intro us N7 w12 l7 hus ho;have hl7:=hl6.trans l7;have hf1:=hft.le ((l2.trans l26).trans l7);have hf2:=hft2.le (l26.trans l7);simp only[rs,decide_true];rw[fa_o0,ob_k ho 3 rfl];simp only[rs,show decide (Fo.ref2.k=8)=true by decide,decide_true];rw[ft_v ho 4 rfl,ft_v ho 1 rfl];refine c_below ho (R:=fun v=>v=.bool true) (rsame47_ret Fo.smpF wv nilS nilS wv2 nilS nilS N7 w12 rfl (by decide) (by decide) (ho.hasM 5 rfl) hf1 hf2) ?_;rintro _ w13 rfl ho;simp only[rs,decide_true];refine o_ints1 258 ho fun b6 w14 ho=>?_;obtain⟨N8,l8,hs8,ho⟩:=OwnS.freezeU (ho.toU 1 1 1 rfl (by omega) (by omega)) 5 rfl;have l38:=((l4.trans l5).trans l6).trans (l7.trans l8);refine c_mem ho 5 rfl (rsame10_ret [258] c1 _ N8 w14 (by decide) (ho.hasM 5 rfl) (hc1.le l38) hs8) ?_;rintro _ N9 w15 l9 rfl ho;simp only[rs,decide_true];have hus9:=hus.le (l8.trans l9);have hl9:=hl7.trans (l8.trans l9);rw[sl_len Tryz.underlying23 (hus9.now (ho.hasM 5 rfl))];simp only[rs,show decide (((256:Nat):Int)=256)=true by decide];obtain⟨g,off,cap,rfl,hc⟩:=sl_open (hus9.now (ho.hasM 5 rfl)) (by decide);have ho:OwnS M.A w w15 [ftE b11 (Fo.f0 []) nilS nilS nilS,ftE b5 Fo.smpF wv2 nilS nilS,dcE b2 Fo.smpD1 vi tk tc,obE b3 Fo.ref2 nilS nilS,ftE b1 Fo.smpF wv nilS nilS,.mem N9]:=ho;have ia:∀{PK:PKT} {K:VWP} (i:Nat),i < 256→DoX prog (mIA 23 (.slice (some ⟨g,off,none⟩) 256 cap) (.int .i64 (i:Int))) w15 PK K=K (.pointer (some ⟨g,off+i,none⟩)) w15:=by
  intro PK K i hi;have:=run_ia (P:=prog) (T:=23) (b:=g) (off:=off) (cap:=cap) (n:=256) (k:=.i64) (i:=(i:Int)) (w:=w15) Tryz.underlying23 (show _=some 1 by kernel_rfl) (by omega) (by omega);rw[Int.toNat_natCast,Nat.mul_one] at this;exact do_eq this
 rw[show (.int .i64 65:Value)=.int .i64 ((65:Nat):Int) from rfl,ia 65 (by decide),l_cell nStr5 (hc 65 (.string ⟨#[65]⟩) (by rfl))];simp only[rs,decide_true];rw[show (.int .i64 126:Value)=.int .i64 ((126:Nat):Int) from rfl,ia 126 (by decide),l_cell nStr5 (hc 126 (.string ⟨([97,115,99,105,105,116,105,108,100,101]:List UInt8).toArray⟩) (by rfl))];simp only[rs,decide_true];rw[show (.int .i64 31:Value)=.int .i64 ((31:Nat):Int) from rfl,ia 31 (by decide),l_cell nStr5 (hc 31 (.string ⟨#[]⟩) (by rfl))];simp only[rs,decide_true];refine c_mem ho 5 rfl (sign47_ret [117,110,105,48,48,69,57] N9 w15 (hsp.le hl9) (ho.hasM 5 rfl)) ?_;rintro _ NA w16 la rfl ho;rw[show Fo.sign [117,110,105,48,48,69,57]=[195,169] by decide +kernel];simp only[rs,decide_true];refine c_mem ho 5 rfl (sign47_ret [117,110,105,68,56,48,48] NA w16 (hsp.le (hl9.trans la)) (ho.hasM 5 rfl)) ?_;rintro _ NB w17 lb rfl ho;rw[show Fo.sign [117,110,105,68,56,48,48]=[] by decide +kernel];simp only[rs,decide_true];refine c_mem ho 5 rfl (sign47_ret [97,116] NB w17 (hsp.le ((hl9.trans la).trans lb)) (ho.hasM 5 rfl)) ?_;rintro _ NC w18 lc rfl ho;rw[show Fo.sign [97,116]=[64] by decide +kernel];simp only[rs,decide_true];have hlC:=((hl9.trans la).trans lb).trans lc;have hfC:=hf1.le ((((l8.trans l9).trans la).trans lb).trans lc);rw[ft_v ho 4 rfl];refine c_mem ho 5 rfl (fsay47_ret Fo.smpF 65 wv nilS nilS NC w18 (hsp.le hlC) Fo.smpF_ok (ho.hasM 5 rfl) hfC) ?_;rintro _ ND w19 ld rfl ho;rw[show Fo.say Fo.smpF 65=[65] by decide +kernel];simp only[rs,decide_true];rw[ft_v ho 4 rfl];refine c_mem ho 5 rfl (fwidth47_ret Fo.smpF 66 wv nilS nilS ND w19 Fo.smpF_ok (by decide) (ho.hasM 5 rfl) (hfC.le ld)) ?_;rintro _ NE w20 le rfl ho;rw[show Fo.width Fo.smpF 66=600 by decide];simp only[rs,decide_true];rw[ft_v ho 4 rfl];refine c_mem ho 5 rfl (fwidth47_ret Fo.smpF 67 wv nilS nilS NE w20 Fo.smpF_ok (by decide) (ho.hasM 5 rfl) (hfC.le (ld.trans le))) ?_;rintro _ NF w21 lf rfl ho;rw[show Fo.width Fo.smpF 67=250 by decide];simp only[rs,decide_true];rw[ft_v ho 4 rfl];have hlF:=hlC.trans ((ld.trans le).trans lf);refine c_mem ho 5 rfl (fcheck47_ret Fo.smpF wv nilS nilS NF w21 (hut.le hlF) Fo.smpF_ok (ho.hasM 5 rfl) (hfC.le ((ld.trans le).trans lf))) ?_;rintro _ NG w22 lg rfl ho;rw[Fo.smp_fcheck];simp only[rs,decide_true];have hz:∀{PK:PKT} {K:VWP} {W:World},DoX prog (mBuild 26 #[]) W PK K=K (ftV (Fo.f0 []) nilS nilS nilS) W:=fun {PK K W}=>do_eq (by kernel_rfl);rw[hz];refine c_mem ho 5 rfl (fcheck47_ret (Fo.f0 []) nilS nilS nilS NG w22 (hut.le (hlF.trans lg)) ⟨by decide,by decide,by decide,(fun s h=>by cases h),by decide,(fun x h=>by cases h),by decide⟩ (ho.hasM 5 rfl) (ft0_at _ _ _ _ _)) ?_;rintro _ NH w23 lh rfl ho;rw[show Fo.check (Fo.f0 [])=1 by decide];simp only[rs,decide_true];exact hK _ NH _ 5 ho rfl ((hlF.trans lg).trans lh)
end
section
open Eng Go.RowKit
def optD47 (p:Option Nat):List Ent:=match p with|none=>[]|some x=>[dcE x Dk.dc0 nilS nilS nilS]
def optO47 (q:Option Nat):List Ent:=match q with|none=>[]|some x=>[obE x ob0 nilS nilS]
def Sv47 (M:Mem)(w:World)(bf:Nat)(wv:Value)(W:World)(a m:Option Value)(p q:Option Nat):Prop:=
 ∃N:Mem,M.le N∧(∀v,a=some v→DV N.A N.w v Fo.smpD)∧(∀v,m=some v→DV N.A N.w v Fo.smpD1)∧FtAt N Fo.smpF wv nilS nilS∧OwnS M.A w W (optD47 p++(optO47 q++[ftE bf Fo.smpF wv nilS nilS,.mem N]))
section
variable {M:Mem}{w W:World}{bf:Nat}{wv:Value}{a m:Option Value}{p q:Option Nat}{PK PK2:PKT}{K:VWP}
theorem sv_s (h:Sv47 M w bf wv W a m p q):(ftE bf Fo.smpF wv nilS nilS).is W:=by
 obtain⟨N,_,_,_,_,ho⟩:=h;exact ho.mem (e:=ftE bf Fo.smpF wv nilS nilS) (by simp)
theorem svA (h:Sv47 M w bf wv W none m p q)(k:∀v W',Sv47 M w bf wv W' (some v) m p q→K v W'):CallX prog 22 #[] W PK K:=by
 obtain⟨N,hle,ha,hm,hf,ho⟩:=h;have go:∀(j:Nat) {L:List Ent} (L':Mem→List Ent),OwnS M.A w W L→L[j]?=some (.mem N)→(∀N',L.set j (.mem N')=L' N')→(∀N',L' N'=optD47 p++(optO47 q++[ftE bf Fo.smpF wv nilS nilS,.mem N']))→CallX prog 22 #[] W PK K:=by
  intro j L L' ho hj h1 h2;refine c_mem ho j hj (sample47_ret N W (ho.hasM j hj)) ?_;intro v N' W' l hv ho;rw[h1,h2] at ho;exact k v W' ⟨N',hle.trans l,(fun u e=>by cases e;exact hv),(fun u e=>(hm u e).le l),hf.le l,ho⟩
 cases p<;>cases q
 ·exact go 1 _ ho rfl (fun _=>rfl) (fun _=>rfl)
 ·exact go 2 _ ho rfl (fun _=>rfl) (fun _=>rfl)
 ·exact go 2 _ ho rfl (fun _=>rfl) (fun _=>rfl)
 ·exact go 3 _ ho rfl (fun _=>rfl) (fun _=>rfl)
theorem svM {v:Value}(hut:UtM M)(h:Sv47 M w bf wv W (some v) none p q)(k:∀dv W',Sv47 M w bf wv W' (some v) (some dv) p q→K (.tuple #[dv,obV Fo.ref2 nilS nilS,.int .i64 0]) W'):CallX prog 21 #[v,ftV Fo.smpF wv nilS nilS] W PK K:=by
 obtain⟨N,hle,ha,hm,hf,ho⟩:=h;have go:∀(j:Nat) {L:List Ent} (L':Mem→List Ent),OwnS M.A w W L→L[j]?=some (.mem N)→(∀N',L.set j (.mem N')=L' N')→(∀N',L' N'=optD47 p++(optO47 q++[ftE bf Fo.smpF wv nilS nilS,.mem N']))→CallX prog 21 #[v,ftV Fo.smpF wv nilS nilS] W PK K:=by
  intro j L L' ho hj h1 h2;refine c_mem ho j hj (fmake47_ret Fo.smpD Fo.smpF v wv nilS nilS N W (hut.le hle) Fo.smpF_ok rfl rfl rfl Fo.smp_fcheck Fo.smp_addOk Fo.smp_wts (ho.hasM j hj) (ha v rfl) hf) ?_;rintro _ N' W' l ⟨dv,rfl,hdv⟩ ho;rw[h1,h2] at ho;rw[Fo.smp_next];exact k dv W' ⟨N',hle.trans l,(fun u e=>(ha u e).le l),(fun u e=>by cases e;exact hdv),hf.le l,ho⟩
 cases p<;>cases q
 ·exact go 1 _ ho rfl (fun _=>rfl) (fun _=>rfl)
 ·exact go 2 _ ho rfl (fun _=>rfl) (fun _=>rfl)
 ·exact go 2 _ ho rfl (fun _=>rfl) (fun _=>rfl)
 ·exact go 3 _ ho rfl (fun _=>rfl) (fun _=>rfl)
theorem svD (h:Sv47 M w bf wv W a m none q)(k:∀x W',Sv47 M w bf wv W' a m (some x) q→K (.pointer (some ⟨x,0,none⟩)) W'):DoX prog (mAlloc 50) W PK K:=by
 obtain⟨N,hle,ha,hm,hf,ho⟩:=h;exact o_dca ho fun x W' ho=>k x W' ⟨N,hle,ha,hm,hf,ho⟩
theorem svO (h:Sv47 M w bf wv W a m p none)(k:∀x W',Sv47 M w bf wv W' a m p (some x)→K (.pointer (some ⟨x,0,none⟩)) W'):DoX prog (mAlloc 48) W PK K:=by
 obtain⟨N,hle,ha,hm,hf,ho⟩:=h;cases p
 ·exact o_oba ho fun x W' ho=>k x W' ⟨N,hle,ha,hm,hf,ho⟩
 ·exact o_oba ho fun x W' ho=>k x W' ⟨N,hle,ha,hm,hf,OwnS.swap ho⟩
theorem svF {v dv:Value}{x y:Nat}{K:Ending→World→Prop}(hut:UtM M)(hsp:SpM M)(hK:∀(W':World) (N':Mem) (L:List Ent) (i:Nat),OwnS M.A w W' L→L[i]?=some (.mem N')→M.le N'→K (.returned (.bool true)) W')(h:Sv47 M w bf wv W (some v) (some dv) (some x) (some y)) :
  DoX prog (mStore 50 (.pointer (some ⟨x,0,none⟩)) dv) W PK fun _ w=>DoX prog (mStore 48 (.pointer (some ⟨y,0,none⟩)) (obV Fo.ref2 nilS nilS)) w PK2 fun _ w=>
   S_foliantlaw47_lives_0 (.pointer (some ⟨bf,0,none⟩)) (.pointer (some ⟨x,0,none⟩)) (.pointer (some ⟨y,0,none⟩)) (.int .i64 0) w K:=by
 obtain⟨N,hle,ha,hm,hf,ho⟩:=h;obtain⟨vi,tk,tc,ics,rfl,hda⟩:=hm dv rfl;refine dc_put 0 (d':=Fo.smpD1) hda.items.one hda.trailer.oneK hda.trailer.oneC ho rfl fun w1 ho=>?_;refine ob_put (o':=Fo.ref2) 1 rfl rfl ho rfl fun w2 ho=>?_;exact lives47_0 hut hsp hle hda hf ho hK
end
theorem lives47_ret (M:Mem)(w:World)(hut:UtM M)(hsp:SpM M)(hM:M.has w):RetM prog 6 #[] M w (fun r _=>r=.bool true):=by
 refine retM_of hM fun K hK=>S_foliantlaw47_lives_ok ?_;unfold S_foliantlaw47_lives S_foliantlaw47_lives_h0 S_foliantlaw47_lives_h1;refine o_new (fun b=>.slice (some ⟨b,0,none⟩) 2 2) (intsW [500,600]) 2 (fun _=>by kernel_rfl) (OwnS.memS hM) fun b w1 ho=>?_;obtain⟨N,hle,hs,ho⟩:=OwnS.freezeU (ho.toU 1 2 2 rfl (by omega) (by omega)) 0 rfl;refine do_val (ftV Fo.smpF (.slice (some ⟨b,0,none⟩) 2 2) nilS nilS) (by kernel_rfl) ?_;refine o_fta ho fun bf w2 ho=>?_;refine ft_put 0 (g:=Fo.smpF) rfl rfl rfl ho rfl fun w3 ho=>?_;have hft:FtAt N Fo.smpF (.slice (some ⟨b,0,none⟩) 2 2) nilS nilS:=⟨hs,SlA.nil _ _ _ _,SlA.nil _ _ _ _⟩;have hK':∀(W':World) (N':Mem) (L:List Ent) (i:Nat),OwnS M.A w W' L→L[i]?=some (.mem N')→M.le N'→K (.returned (.bool true)) W':=fun W' N' L i ho hi hl=>hK _ _ N' L i ho hi hl rfl;have hst:Sv47 M w bf (.slice (some ⟨b,0,none⟩) 2 2) w3.drew none none none none:=⟨N,hle,(fun _ h=>by cases h),(fun _ h=>by cases h),hft,ho.drew⟩;refine⟨fun W=>(ftE bf Fo.smpF (.slice (some ⟨b,0,none⟩) 2 2) nilS nilS).is W,sv_s hst,?_⟩;refine hd_do (ftV Fo.smpF (.slice (some ⟨b,0,none⟩) 2 2) nilS nilS) (fun W h=>run_load_at (AtV.agg aggFt (cs:=ftC Fo.smpF (.slice (some ⟨b,0,none⟩) 2 2) nilS nilS) rfl fun j v hj=>by rw[Nat.zero_add];exact cells_cell (T:=26) h hj)) ?_;clear ho hK hM
 repeat' (first
 |exact sv_s (by assumption)
 |exact svF hut hsp hK' (by assumption)
 |refine And.intro ?_ ?_
 |refine svA (by assumption) fun _ _ _=>?_
 |refine svM hut (by assumption) fun _ _ _=>?_
 |refine svD (by assumption) fun _ _ _=>?_
 |refine svO (by assumption) fun _ _ _=>?_
 |refine hd_pure _ (fun _=>rfl) ?_)
end
section
open Eng Go.RowKit
theorem str_at47 {M:Mem}{v:Value}{l:List (List UInt8)}(hs:SlA M.A M.w v 1 l.length (strsV l)){i:Nat}(hi:i < l.length) :
  ∃p,(∀W,(mIA 23 v (.int .i64 (i:Int))).run prog W=.ok (.value (.pointer (some p))) W)∧∀W,M.has W→(mLoad 9 (.pointer (some p))).run prog W=.ok (.value (.string ⟨l[i].toArray⟩)) W:=by
 obtain⟨b,off,cap,rfl,_⟩:=sl_open hs.1 (by omega);refine⟨⟨b,off+i,none⟩,fun W=>?_,fun W hk=>?_⟩
 ·have:=run_ia (P:=prog) (T:=23) (b:=b) (off:=off) (cap:=cap) (n:=l.length) (k:=.i64) (i:=(i:Int)) (w:=W) Tryz.underlying23 (show _=some 1 by kernel_rfl) (by omega) (by omega);rw[Int.toNat_natCast,Nat.mul_one] at this;exact this
 ·obtain⟨b',off',cap',he,hc⟩:=sl_open (hs.now hk) (by omega);cases he;exact run_load_cell nStr5 (hc i _ (strsV_get hi))
theorem light47_ret (f:Ft)(wv nv mv:Value)(M:Mem)(w:World)(hok:FtOk f)(hM:M.has w)(h:FtAt M f wv nv mv):RetM prog 5 #[ftV f wv nv mv] M w (fun r _=>∃b,r=.bool b):=by
 refine retM_of hM fun K hK=>S_foliantlaw47_light_ok ?_;unfold S_foliantlaw47_light;have hnl:=hok.nl;have hml:=hok.ml;refine o_ftb f h (OwnS.memS hM) fun b1 w1 ho=>?_;rw[fa_f0,ft_name ho 0 rfl,s_len Tryz.underlying9];refine loop (fun vs W=>∃(z:Int) (i:Nat),vs=[.int .i64 z,.int .i64 (i:Int)]∧i≤f.names.length∧OwnS M.A w W [ftE b1 f wv nv mv,.mem M]) (fun vs _=>f.names.length - n1 vs) ⟨_,0,rfl,by omega,ho⟩ ?_;clear ho;rintro vs w2 ⟨z,i,rfl,hi,ho⟩ _;simp only[S_foliantlaw47_light_0,gd];rw[fa_f5,ft_nms ho 0 rfl,sl_len Tryz.underlying23 (h.ns.now (ho.hasM 1 rfl))]
 try simp only[rs]
 by_cases hlt:(i:Int) < (f.names.length:Int)
 ·simp only[decide_eq_true hlt,i_t];have hi':i < f.names.length:=by omega
  obtain⟨p,ip,lp⟩:=str_at47 h.ns hi';rw[fa_f5,ft_nms ho 0 rfl,do_eq (ip w2),do_eq (lp w2 (ho.hasM 1 rfl)),s_len Tryz.underlying9]
  try simp only[rs]
  rw[wrap64_id (n:=(i:Int)+1) (by omega) (by omega)];exact nextX ⟨_,i+1,rfl,by omega,ho⟩ (by simp[n1,RowKit.intOf];omega)
 simp only[decide_eq_false hlt,i_f];refine loop (fun vs W=>∃(z:Int) (i:Nat),vs=[.int .i64 z,.int .i64 (i:Int)]∧i≤f.maps.length∧OwnS M.A w W [ftE b1 f wv nv mv,.mem M]) (fun vs _=>f.maps.length - n1 vs) ⟨z,0,rfl,by omega,ho⟩ ?_;clear ho;rintro vs w3 ⟨z,j,rfl,hj,ho⟩ _;simp only[S_foliantlaw47_light_1,gd];rw[fa_f6,ft_mps ho 0 rfl,sl_len Tryz.underlying24 (h.ms.now (ho.hasM 1 rfl))]
 try simp only[rs]
 by_cases hlt2:(j:Int) < (f.maps.length:Int)
 ·simp only[decide_eq_true hlt2,i_t];have hj':j < f.maps.length:=by omega
  obtain⟨b,off,im,cm,_⟩:=mp_cells h.ms hj';rw[fa_f6,ft_mps ho 0 rfl,do_eq (im w3),fa_m1,l_cell nStr5 (cm w3 (ho.hasM 1 rfl)).2,s_len Tryz.underlying9]
  try simp only[rs]
  rw[wrap64_id (n:=(j:Int)+1) (by omega) (by omega)];exact nextX ⟨_,j+1,rfl,by omega,ho⟩ (by simp[n1,RowKit.intOf];omega)
 simp only[decide_eq_false hlt2,i_f];have fin:∀q,K (.returned (.bool q)) w3:=fun q=>hK _ _ M _ 1 ho rfl M.le_refl ⟨q,rfl⟩;by_cases g1:z≤6000
 case neg=>
  simp only[decide_eq_false g1,rs,g_un];exact fin _
 simp only[decide_eq_true g1,rs];rw[fa_f5,ft_nms ho 0 rfl,sl_len Tryz.underlying23 (h.ns.now (ho.hasM 1 rfl))]
 try simp only[rs]
 by_cases g2:(f.names.length:Int)≤300
 case neg=>
  simp only[decide_eq_false g2,rs,g_un];exact fin _
 simp only[decide_eq_true g2,rs];rw[fa_f6,ft_mps ho 0 rfl,sl_len Tryz.underlying24 (h.ms.now (ho.hasM 1 rfl))]
 try simp only[rs]
 by_cases g3:(f.maps.length:Int)≤300
 case neg=>
  simp only[decide_eq_false g3,rs,g_un];exact fin _
 simp only[decide_eq_true g3,rs];rw[fa_f3,ft_ws ho 0 rfl,sl_len Tryz.underlying22 (h.ws.now (ho.hasM 1 rfl))]
 try simp only[rs]
 exact fin _
end
section
open Eng Go.RowKit
theorem Fo.codes_len (f:Ft)(s:List UInt8):(Fo.codes f s).1.length≤s.length:=by
 unfold Fo.codes;split
 ·simp
 ·split
  ·simp
  ·have:=Fo.pairs_len s;show (Fo.pairs s).length≤s.length;omega
theorem fontTells_ret (f:Ft)(c:Int)(s name:List UInt8)(wv nv mv:Value)(M:Mem)(w:World)(hut:UtM M)(hsp:SpM M)(hok:FtOk f)(hc:-9223372036854775808≤c∧c≤9223372036854775807)(hM:M.has w)(h:FtAt M f wv nv mv) :
  RetM prog 3 #[ftV f wv nv mv,.int .i64 c,.string ⟨s.toArray⟩,.string ⟨name.toArray⟩] M w (fun r _=>r=.bool true):=by
 refine retM_of hM fun K hK=>S_foliantlaw47_FontTells_ok ?_;unfold S_foliantlaw47_FontTells;refine o_ftb f h (OwnS.memS hM) fun b1 w1 ho=>?_;have lv:∀{W:World} {N:Mem},OwnS M.A w W [ftE b1 f wv nv mv,.mem N]→M.le N→CallX prog 6 #[] W (pk K) fun t w=>K (.returned t) w:=by
  intro W N ho hle;refine c_mem ho 1 rfl (lives47_ret N W (hut.le hle) (hsp.le hle) (ho.hasM 1 rfl)) ?_;rintro _ N2 W2 l2 rfl ho;exact hK _ _ N2 _ 1 ho rfl (hle.trans l2) rfl
 rw[ft_v ho 0 rfl];refine c_mem ho 1 rfl (light47_ret f wv nv mv M w1 hok (ho.hasM 1 rfl) h) ?_;rintro _ N w2 hle ⟨q,rfl⟩ ho;have ho:OwnS M.A w w2 [ftE b1 f wv nv mv,.mem N]:=ho;rw[u_not];cases q with
|false=>
  simp only[Bool.not_false,rs,g_un,g_tf,i_t];exact lv ho hle
|true=>
 simp only[Bool.not_true,rs];rw[s_len Tryz.underlying9]
 try simp only[rs]
 by_cases h1:500 < (s.length:Int)
 ·simp only[decide_eq_true h1,rs,g_un,g_tf,i_t];exact lv ho hle
 simp only[decide_eq_false h1,rs];rw[s_len Tryz.underlying9]
 try simp only[rs]
 by_cases h2:500 < (name.length:Int)
 ·simp only[decide_eq_true h2,rs,i_t];exact lv ho hle
 simp only[decide_eq_false h2,rs,i_f];rw[ft_v ho 0 rfl];refine c_mem ho 1 rfl (fcodes47_ret f s wv nv mv N w2 (by omega) (ho.hasM 1 rfl) (h.le hle)) ?_;rintro _ N2 w3 l2 ⟨c1,rfl,hc1⟩ ho;simp only[ex];rw[ft_v ho 0 rfl];refine c_mem ho 1 rfl (rcodes47_ret f s wv nv mv N2 w3 (by omega) (ho.hasM 1 rfl) ((h.le hle).le l2)) ?_;rintro _ N3 w4 l3 ⟨c2,rfl,hc2⟩ ho;simp only[ex];have h3:=(hle.trans l2).trans l3;have hcl:(Fo.codes f s).1.length≤1000000000:=by have:=Fo.codes_len f s;omega
 refine quietC (fun W=>∃N',N3.le N'∧OwnS M.A w W [ftE b1 f wv nv mv,.mem N']) ⟨N3,N3.le_refl,ho.drew⟩ ?_;have qc:∀{g:Nat} {args:Array Value} {v:Value} {K':Value→Prop},(∀(N':Mem) (W:World),N3.le N'→N'.has W→RetM prog g args N' W (fun r _=>r=v))→K' v→QCall prog (fun W=>∃N',N3.le N'∧OwnS M.A w W [ftE b1 f wv nv mv,.mem N']) g args K':=by
  intro g args v K' hr k;refine q_call v (fun W hW=>?_) k;obtain⟨N',hl,ho⟩:=hW;refine Ret.mono (hr N' W hl (ho.hasM 1 rfl)) fun r W' hh=>?_;obtain⟨N4,g4,rfl⟩:=hh;exact⟨rfl,N4,hl.trans g4.le,ho.gives 1 rfl g4⟩
 have ql:∀{K':Value→Prop},K' (ftV f wv nv mv)→QDo prog (fun W=>∃N',N3.le N'∧OwnS M.A w W [ftE b1 f wv nv mv,.mem N']) (mLoad 26 (.pointer (some ⟨b1,0,none⟩))) K':=by
  intro K' k;refine q_at _ (fun W hW=>?_) k;obtain⟨N',hl,ho⟩:=hW;exact run_load_at (ho.agg 0 rfl aggFt)
 refine qc (fun N' W hl hN=>rsame10_ret _ c1 c2 N' W hcl hN ((hc1.le l3).le hl) (hc2.le hl)) ?_;simp only[gq];refine q_eq (q_pt ?_);simp only[gq,decide_true];refine ql (qc (fun N' W hl hN=>fwidth47_ret f c wv nv mv N' W hok hc hN (h.le (h3.trans hl))) (ql (qc (fun N' W hl hN=>rwidth47_ret f c wv nv mv N' W hok hc hN (h.le (h3.trans hl))) (q_eq (q_pt ?_)))));simp only[gq,decide_true];refine ql (qc (fun N' W hl hN=>fsay47_ret f c wv nv mv N' W (hsp.le (h3.trans hl)) hok hN (h.le (h3.trans hl))) (ql (qc (fun N' W hl hN=>rsay47_ret f c wv nv mv N' W hok (fun s hs=>by have:=hok.nms s hs;omega) hN (h.le (h3.trans hl))) (q_seq (q_pt ?_)))));simp only[gq,decide_true];refine qc (fun N' W hl hN=>sign47_ret name N' W (hsp.le (h3.trans hl)) hN) (qc (fun N' W hl hN=>rsign47_ret name N' W hN (by omega)) (q_seq (q_pt ?_)));simp only[gq,decide_true];refine ql (qc (fun N' W hl hN=>fcheck47_ret f wv nv mv N' W (hut.le (h3.trans hl)) hok hN (h.le (h3.trans hl))) (ql (qc (fun N' W hl hN=>rfcheck47_ret f wv nv mv N' W hok hN (h.le (h3.trans hl))) (q_eq (q_pt ?_)))));rintro W ⟨N4,l4,ho⟩;have h4:=h3.trans l4;simp only[rs,decide_true];refine c_mem ho 1 rfl (usual47_ret N4 W (hsp.le h4) (ho.hasM 1 rfl)) ?_;intro u1 N5 w5 l5 hu1 ho;refine c_mem ho 1 rfl (rusual47_ret N5 w5 (ho.hasM 1 rfl)) ?_;intro u2 N6 w6 l6 hu2 ho;have hul:=Fo.usual_len;refine c_below ho (R:=fun v=>v=.bool true) ((rtexts_ret u1 u2 Fo.usual Fo.usual w6 (by rw[hul];exact (hu1.le l6).now (ho.hasM 1 rfl)) (by rw[hul];exact hu2.now (ho.hasM 1 rfl)) (by rw[hul];decide)).mono fun v w' h=>⟨by rw[h.1];simp,h.2⟩) ?_;rintro _ w7 rfl ho;simp only[rs];have h6:=(h4.trans l5).trans l6;refine c_mem ho 1 rfl (lives47_ret N6 w7 (hut.le h6) (hsp.le h6) (ho.hasM 1 rfl)) ?_;rintro _ N7 w8 l7 rfl ho
 try simp only[rs]
 exact hK _ _ N7 _ 1 ho rfl (h6.trans l7) rfl
end
section
open Eng Go.RowKit
def layReps (w:World)(g:Nat):World:=
 { w with heap:=(w.heap.modify g fun
  |.cells _ t frozen=>.cells #[.map (some w.heap.size)] t frozen
  |o=>o).push (.map #[⟨.int .i64 16,.agg #[.int .i64 3,.int .i64 2],0⟩,⟨.int .i64 17,.agg #[.int .i64 3,.int .i64 3],1⟩,⟨.int .i64 18,.agg #[.int .i64 11,.int .i64 7],2⟩] 3) }
end
section
open Eng Go.RowKit Go.ChangeShapes Go.WideShapes Go.ChangeAt
set_option maxRecDepth 100000
theorem list7f {α:Type}:∀{l:List α},l.length=7→∃a b c d e f g,l=[a,b,c,d,e,f,g]
|[a,b,c,d,e,f,g],_=>⟨a,b,c,d,e,f,g,rfl⟩
theorem list2o {α:Type}:∀{l:List α},l.length=2→∃a b,l=[a,b]
|[a,b],_=>⟨a,b,rfl⟩
theorem sum_w47 {α:Type}{wt:α→Nat}:∀{l:List α} {s:α},s∈l→wt s≤(l.map wt).sum
|a::l,s,h=>by
  rw[List.map_cons,List.sum_cons];rcases List.mem_cons.1 h with rfl|h
  ·omega
  ·have:=sum_w47 (wt:=wt) h;omega
theorem len_w47 {α:Type}{wt:α→Nat}(hp:∀x,1≤wt x):∀l:List α,l.length≤(l.map wt).sum
|[]=>by simp
|a::l=>by
  have:=len_w47 hp l;have:=hp a;rw[List.map_cons,List.sum_cons,List.length_cons];omega
section
variable {H:Type}{enc:TypeId×Value→H}{W:World}{sp:Nat→Bool}{held:Bool}
theorem open_str47 (fuel:Nat)(cs:List Value)(x:DataW H×List MemPlace)(h:DataW.trod enc prog W 0 sp held fuel 9 cs=some x):∃s:List UInt8,cs=strsV [s]∧cs.length=1∧s.length+1≤Rows.uptoBulk x.1:=by
 obtain⟨s,rfl,rfl,_⟩:=DataW.trod_string Tryz.underlying9 h;refine⟨s.data.toList,rfl,rfl,?_⟩;simp only[Rows.uptoBulk];omega
theorem open_i6447 (fuel:Nat)(cs:List Value)(x:DataW H×List MemPlace)(h:DataW.trod enc prog W 0 sp held fuel 2 cs=some x):∃n:Int,cs=intsW [n]∧cs.length=1∧1≤Rows.uptoBulk x.1:=by
 obtain⟨n,rfl,rfl,_⟩:=DataW.trod_int Tryz.underlying2 h;exact⟨n,rfl,rfl,by simp[Rows.uptoBulk]⟩
theorem open_mp47 (fuel:Nat)(cs:List Value)(x:DataW H×List MemPlace)(h:DataW.trod enc prog W 0 sp held fuel 44 cs=some x):∃m:Cm.Mp,cs=mpC m∧cs.length=2∧m.2.length+1≤Rows.uptoBulk x.1:=by
 obtain⟨xs,n,rfl,rfl,hl,hxl,hf⟩:=DataW.trod_struct Tryz.underlying44 h;have c2:Tryz.prog.cellsOf 44=2:=by kernel_rfl
 rw[c2] at hl;have hxl:xs.length=2:=hxl;obtain⟨x0,x1,rfl⟩:=list2o hxl;obtain⟨v0,v1,rfl⟩:=list2o hl;have e0:=hf 0 _ rfl;have e1:=hf 1 _ rfl;have k0:Tryz.prog.cellsOf 3=1:=by kernel_rfl
 have k1:Tryz.prog.cellsOf 9=1:=by kernel_rfl
 simp only[k0,k1,List.drop_zero,List.drop_succ_cons,List.take_succ_cons,List.take_zero,List.getElem?_cons_zero,List.getElem?_cons_succ] at e0 e1;obtain⟨a,ha,rfl,_⟩:=DataW.trod_int Tryz.underlying3 e0;obtain⟨s,hs,rfl,_⟩:=DataW.trod_string Tryz.underlying9 e1
 injection ha with ha _
 injection hs with hs _
 subst ha;subst hs;refine⟨(a,s.data.toList),rfl,rfl,?_⟩;simp only[Rows.uptoBulk,List.map_cons,List.map_nil,Rows.uptoBulkAll];omega
theorem strs_fm:∀l:List (List UInt8),(l.flatMap fun s=>strsV [s])=strsV l
|[]=>rfl
|s::l=>by rw[List.flatMap_cons,strs_fm l];rfl
theorem ints_fm:∀l:List Int,(l.flatMap fun s=>intsW [s])=intsW l
|[]=>rfl
|s::l=>by rw[List.flatMap_cons,ints_fm l];rfl
theorem row_font {b0:Nat}{v:Value}{d:DataW H}{ps:List MemPlace}(hval:Value.okWide prog W .any b0 26 v)(hd:DataW.Trod enc prog W 0 sp held 26 v d ps) :
  ∃(f:Ft) (wv nv mv:Value),v=ftV f wv nv mv∧FtAt (Mem.all W) f wv nv mv∧(Rows.uptoBulk d≤1048576→FtOk f):=by
 obtain⟨cs,rfl,_⟩:=okWide_struct Tryz.underlying26 hval;obtain⟨fuel,h⟩:=hd;have h:DataW.trod enc prog W 0 sp held fuel 26 cs.toList=some (d,ps):=h;obtain⟨xs,n,rfl,hdd,hl,hxl,hf⟩:=DataW.trod_struct Tryz.underlying26 h;have c7:Tryz.prog.cellsOf 26=7:=by kernel_rfl
 rw[c7] at hl;have hxl:xs.length=7:=hxl;obtain⟨x0,x1,x2,x3,x4,x5,x6,rfl⟩:=list7f hxl;obtain⟨v0,v1,v2,v3,v4,v5,v6,hcs⟩:=list7f hl;rw[hcs] at hf;have e0:=hf 0 _ rfl;have e1:=hf 1 _ rfl;have e2:=hf 2 _ rfl;have e3:=hf 3 _ rfl;have e4:=hf 4 _ rfl;have e5:=hf 5 _ rfl;have e6:=hf 6 _ rfl;have k0:Tryz.prog.cellsOf 9=1:=by kernel_rfl
 have k1:Tryz.prog.cellsOf 4=1:=by kernel_rfl
 have k2:Tryz.prog.cellsOf 3=1:=by kernel_rfl
 have k3:Tryz.prog.cellsOf 22=1:=by kernel_rfl
 have k4:Tryz.prog.cellsOf 2=1:=by kernel_rfl
 have k5:Tryz.prog.cellsOf 23=1:=by kernel_rfl
 have k6:Tryz.prog.cellsOf 24=1:=by kernel_rfl
 simp only[k0,k1,k2,k3,k4,k5,k6,List.drop_zero,List.drop_succ_cons,List.take_succ_cons,List.take_zero,List.getElem?_cons_zero,List.getElem?_cons_succ] at e0 e1 e2 e3 e4 e5 e6;obtain⟨s,hs,hs1,_⟩:=DataW.trod_string Tryz.underlying9 e0;obtain⟨b,hb,_⟩:=DataW.trod_bool Tryz.underlying4 e1;obtain⟨p,hp,_,hpw⟩:=DataW.trod_int Tryz.underlying3 e2;obtain⟨wv,ds3,ws,g3,q3,r3,_,z3⟩:=open_slice_of (R:=fun cs (n:Int)=>cs=intsW [n]) (wt:=fun _:Int=>1) (n:=1) Tryz.underlying22 (by kernel_rfl) (by decide) open_i6447 e3;obtain⟨m,hm,_,_⟩:=DataW.trod_int Tryz.underlying2 e4;obtain⟨nv,ds5,ns,g5,q5,r5,_,z5⟩:=open_slice_of (R:=fun cs (s:List UInt8)=>cs=strsV [s]) (wt:=fun s:List UInt8=>s.length+1) (n:=1) Tryz.underlying23 (by kernel_rfl) (by decide) open_str47 e5;obtain⟨mv,ds6,ms,g6,q6,r6,_,z6⟩:=open_slice_of (R:=fun cs (x:Cm.Mp)=>cs=mpC x) (wt:=fun x:Cm.Mp=>x.2.length+1) (n:=2) Tryz.underlying24 (by kernel_rfl) (by decide) open_mp47 e6
 injection hs with hs _
 injection hb with hb _
 injection hp with hp _
 injection g3 with g3 _
 injection hm with hm _
 injection g5 with g5 _
 injection g6 with g6 _
 subst hs;subst hb;subst hp;subst g3;subst hm;subst g5;subst g6;have hbk:s.data.toList.length+1+Rows.uptoBulk x3.1+Rows.uptoBulk x5.1+Rows.uptoBulk x6.1≤Rows.uptoBulk d:=by
  have hdd:d=_:=congrArg Prod.fst hdd;rw[hdd,hs1];simp only[Rows.uptoBulk,List.map_cons,List.map_nil,Rows.uptoBulkAll];omega
 have t3:ds3=intsW ws:=(Rws.flat r3).trans (ints_fm ws);have t5:ds5=strsV ns:=(Rws.flat r5).trans (strs_fm ns);have t6:ds6=mpsC ms:=Rws.flat r6;subst t3;subst t5;subst t6;refine⟨⟨s.data.toList,b,p,ws,m,ns,ms⟩,v3,v5,v6,?_,⟨q3,q5,q6⟩,fun hd=>⟨?_,?_,?_,fun s' hs'=>?_,?_,fun x hx=>?_,int_bounds_i64 hpw⟩⟩
 ·rw[ftV,ftC];have:cs=cs.toList.toArray:=by simp
  rw[this,hcs]
 ·show s.data.toList.length≤_;omega
 ·have:=len_w47 (wt:=fun _:Int=>1) (fun _=>by omega) ws;show ws.length≤_;omega
 ·have:=len_w47 (wt:=fun s:List UInt8=>s.length+1) (fun _=>by omega) ns;show ns.length≤_;omega
 ·have:=sum_w47 (wt:=fun s:List UInt8=>s.length+1) (l:=ns) hs'
  try dsimp only at this
  omega
 ·have:=len_w47 (wt:=fun x:Cm.Mp=>x.2.length+1) (fun _=>by omega) ms;show ms.length≤_;omega
 ·have:=sum_w47 (wt:=fun x:Cm.Mp=>x.2.length+1) (l:=ms) hx
  try dsimp only at this
  omega
theorem bulk_font4 {a b c d:DataW H}(h:Rows.uptoSmall H [a,b,c,d]=true):Rows.uptoBulk a≤1048576∧Rows.uptoBulk b≤1048576∧Rows.uptoBulk c≤1048576∧Rows.uptoBulk d≤1048576:=by
 have h:Rows.uptoBulkAll [a,b,c,d]≤1048576:=of_decide_eq_true h;simp only[Rows.uptoBulkAll] at h;omega
end
theorem cell_lt47 {W:World}{g i:Nat}{v:Value}(h:W.cell? ⟨g,i,none⟩=some v):g < W.heap.size:=by
 unfold World.cell? at h;cases hh:W.heap[g]? with
|none=>simp[hh] at h
|some o=>exact lt_of_get hh
theorem cell_all47 {W w:World}(h:(Mem.all W).has w){g i:Nat}(hl:g < W.heap.size):w.cell? ⟨g,i,none⟩=W.cell? ⟨g,i,none⟩:=by
 unfold World.cell?;rw[show w.heap[g]?=W.heap[g]? from h g hl]
def u8extra:U8Extra prog u8ren:=⟨by kernel_rfl,by kernel_rfl,by kernel_rfl,by kernel_rfl,by kernel_rfl,by kernel_rfl,by kernel_rfl⟩
theorem utM_laid {W:World}{l:List (String×DataW Unit)}(h:laidMet prog l W)(h1:("unicode/utf8.first",Lib.firstData)∈l)(h2:("unicode/utf8.acceptRanges",Lib.acceptData)∈l):UtM (Mem.all W):=by
 have hu:Lib.Utf8Tabs 1 2 W:=utf8Tabs_of_readsT (U8Types.of196 u8lays) u8extra (Lib.laidMet.reads h h1) (Lib.laidMet.reads h h2);have l3:=cell_lt47 (hu.1 0 (by omega));have l4:=cell_lt47 (hu.2 0 (by omega)).1;intro w hw;refine⟨fun c hc=>?_,fun i hi=>⟨?_,?_⟩⟩
 ·rw[cell_all47 hw l3];exact hu.1 c hc
 ·rw[cell_all47 hw l4];exact (hu.2 i hi).1
 ·rw[cell_all47 hw l4];exact (hu.2 i hi).2
theorem spM_laid {W:World}(h:SpF W):SpM (Mem.all W):=by
 intro w hw;have hg:Tryz.prog.globalNamed "strings.asciiSpace"=some 0:=by kernel_rfl
 unfold SpF Lib.TabIs World.var? at h ⊢;rw[hg] at h ⊢;simp only[Option.bind_some] at h ⊢;have hlt:0 < W.heap.size:=by
  rcases Nat.lt_or_ge 0 W.heap.size with h'|h'
  ·exact h'
  ·rw[Array.getElem?_eq_none h'] at h;cases h
 rw[show w.heap[0]?=W.heap[0]? from hw _ hlt];exact h
theorem fontTells_row (f:Ft)(c:Int)(s name:List UInt8)(wv nv mv:Value)(w:World)(hut:UtM (Mem.all w))(hsp:SpM (Mem.all w))(hok:FtOk f)(hc:-9223372036854775808≤c∧c≤9223372036854775807)(h:FtAt (Mem.all w) f wv nv mv) :
  Ret prog 3 #[ftV f wv nv mv,.int .i64 c,.string ⟨s.toArray⟩,.string ⟨name.toArray⟩] w (fun v w'=>v=.bool true∧Below w.heap.size w w'):=
 RetM.told (fontTells_ret f c s name wv nv mv (Mem.all w) w hut hsp hok hc (Mem.all_has w) h)
end
section
open Go
theorem goes_none {P:Program}(h:P.funcs.any Func.goes=false)(f:FuncId):P.goes f=false:=by
 have hf:∀g:FuncId,((P.funcs[g]?).any Func.goes)=false:=by
  intro g;cases hg:P.funcs[g]? with
 |none=>rfl
 |some fn=>
   have:=Array.any_eq_false.1 h;obtain⟨hi,e⟩:=Array.getElem?_eq_some_iff.1 hg;have:=this g hi;rw[e] at this;simpa using this
 unfold Program.goes;rw[h,Bool.and_false,Bool.or_false];simp[hf]
theorem goesBy_none {P:Program}(h:P.funcs.any Func.goes=false)(c:OpenClaim):false=c.goesBy P:=by
 unfold OpenClaim.goesBy Program.goesAt Program.goesFrom;have h1:∀o:Option FuncId,o.any P.goes=false:=by
  intro o;cases o with
 |none=>rfl
 |some f=>exact goes_none h f
 rw[h1,Bool.false_or];cases c.start<;>simp[goes_none h]
end
end Go.Proofs.YtmkodaephgnehaaGreatDoor
