/- Texts that go together: SLaw35 PgN PgO PgP PgQ PgR PgS PgT SDrop5 SRef19B PgU PgV LbG LbH LbI LbJ LbK EngV SLaw38 LbL LbM LbN LbO PgX. -/
import Derived.Test.YtoobidofdpdkbaaGreatDoorRows
import Derived.Test.YtoobidofdpdkbaaGreatDoorMnclicnlc
import Derived.Test.YtoobidofdpdkbaaGreatDoorMocgdbjhl
import Derived.Test.YtoobidofdpdkbaaGreatDoorMaahephch
import Derived.Test.YtoobidofdpdkbaaGreatDoorMiacjjaff
set_option linter.defProp false
set_option linter.unusedSimpArgs false
set_option linter.unusedVariables false
set_option maxRecDepth 20000
open Go.Proofs.Tryz (prog)
namespace Go.Proofs.YtoobidofdpdkbaaGreatDoor
section
open Eng
def S_foliantlaw35_dict (t0:Value)(w:World)(K:Ending→World→Prop):Prop:=
 DoX prog (mAlloc 26) w (pk K) fun t2 w=>
 CallX prog 83 #[t0] w (pk K) fun t7 w=>
 DoX prog (mExt t7 0) w (pk K) fun t8 w=>
 DoX prog (mExt t7 1) w (pk K) fun t9 w=>
 DoX prog (mAlloc 26) w (pk K) fun t3 w=>
 DoX prog (mStore 26 t3 t8) w (pk K) fun _ w=>
 DoX prog (mLoad 26 t3) w (pk K) fun t10 w=>
 DoX prog (mStore 26 t2 t10) w (pk K) fun _ w=>
 RetX prog [.cell t2 26] w K
theorem S_foliantlaw35_dict_eq (t0:Value)(w:World)(K:Ending→World→Prop):wpX prog 11 [] [] none (bodyOf Tryz.f53) (topQ prog [.cell 2 26] K) (startX [t0]) [] w=S_foliantlaw35_dict t0 w K:=by kernel_rfl
theorem S_foliantlaw35_dict_ok {t0:Value}{w:World}{K:Ending→World→Prop}(h:S_foliantlaw35_dict t0 w K):Calls prog 53 #[t0] w K:=
 calls_of_wpX Tryz.func53 rfl rfl rfl rfl (Eq.mpr (S_foliantlaw35_dict_eq t0 w K) h)
def S_foliantlaw35_key (t0:Value)(w:World)(K:Ending→World→Prop):Prop:=
 DoX prog (mAlloc 26) w (pk K) fun t2 w=>
 CallX prog 84 #[t0] w (pk K) fun t4 w=>
 DoX prog (mStore 26 t2 t4) w (pk K) fun _ w=>
 RetX prog [.cell t2 26] w K
theorem S_foliantlaw35_key_eq (t0:Value)(w:World)(K:Ending→World→Prop):wpX prog 5 [] [] none (bodyOf Tryz.f54) (topQ prog [.cell 2 26] K) (startX [t0]) [] w=S_foliantlaw35_key t0 w K:=by kernel_rfl
theorem S_foliantlaw35_key_ok {t0:Value}{w:World}{K:Ending→World→Prop}(h:S_foliantlaw35_key t0 w K):Calls prog 54 #[t0] w K:=
 calls_of_wpX Tryz.func54 rfl rfl rfl rfl (Eq.mpr (S_foliantlaw35_key_eq t0 w K) h)
def S_foliantlaw35_box (t0 t1 t2 t3:Value)(w:World)(K:Ending→World→Prop):Prop:=
 DoX prog (mAlloc 26) w (pk K) fun t8 w=>
 CallX prog 26 #[t0] w (pk K) fun t10 w=>
 CallX prog 26 #[t1] w (pk K) fun t12 w=>
 CallX prog 26 #[t2] w (pk K) fun t14 w=>
 CallX prog 26 #[t3] w (pk K) fun t16 w=>
 DoX prog (mBuildS 24 4 #[(0,t10),(1,t12),(2,t14),(3,t16)]) w (pk K) fun t17 w=>
 CallX prog 24 #[t17] w (pk K) fun t18 w=>
 DoX prog (mStore 26 t8 t18) w (pk K) fun _ w=>
 RetX prog [.cell t8 26] w K
theorem S_foliantlaw35_box_eq (t0 t1 t2 t3:Value)(w:World)(K:Ending→World→Prop):wpX prog 19 [] [] none (bodyOf Tryz.f34) (topQ prog [.cell 8 26] K) (startX [t0,t1,t2,t3]) [] w=S_foliantlaw35_box t0 t1 t2 t3 w K:=by kernel_rfl
theorem S_foliantlaw35_box_ok {t0 t1 t2 t3:Value}{w:World}{K:Ending→World→Prop}(h:S_foliantlaw35_box t0 t1 t2 t3 w K):Calls prog 34 #[t0,t1,t2,t3] w K:=
 calls_of_wpX Tryz.func34 rfl rfl rfl rfl (Eq.mpr (S_foliantlaw35_box_eq t0 t1 t2 t3 w K) h)
def S_foliantlaw35_sample_1 (t0:Value)(w:World)(K:Ending→World→Prop):Prop:=
 RetX prog [.cell t0 28] w K
def S_foliantlaw35_sample_0 (t0 t2:Value)(w:World)(K:Ending→World→Prop):Prop:=
 CallX prog 54 #[(.string ⟨#[84,121,112,101]⟩)] w (pk K) fun t13 w=>
 CallX prog 54 #[(.string ⟨#[80,97,103,101,115]⟩)] w (pk K) fun t14 w=>
 CallX prog 54 #[(.string ⟨#[75,105,100,115]⟩)] w (pk K) fun t15 w=>
 CallX prog 31 #[(.int .i64 3),(.int .i64 0)] w (pk K) fun t16 w=>
 CallX prog 31 #[(.int .i64 4),(.int .i64 0)] w (pk K) fun t17 w=>
 DoX prog (mBuildS 24 2 #[(0,t16),(1,t17)]) w (pk K) fun t18 w=>
 CallX prog 24 #[t18] w (pk K) fun t19 w=>
 CallX prog 54 #[(.string ⟨#[77,101,100,105,97,66,111,120]⟩)] w (pk K) fun t20 w=>
 CallX prog 34 #[(.int .i64 3),(.int .i64 4),(.int .i64 1),(.int .i64 2)] w (pk K) fun t21 w=>
 DoX prog (mBuildS 24 6 #[(0,t13),(1,t14),(2,t15),(3,t19),(4,t20),(5,t21)]) w (pk K) fun t22 w=>
 CallX prog 53 #[t22] w (pk K) fun t23 w=>
 DoX prog (mAlloc 26) w (pk K) fun t3 w=>
 DoX prog (mStore 26 t3 t23) w (pk K) fun _ w=>
 CallX prog 54 #[(.string ⟨#[84,121,112,101]⟩)] w (pk K) fun t24 w=>
 CallX prog 54 #[(.string ⟨#[80,97,103,101]⟩)] w (pk K) fun t25 w=>
 CallX prog 54 #[(.string ⟨#[67,111,110,116,101,110,116,115]⟩)] w (pk K) fun t26 w=>
 CallX prog 31 #[(.int .i64 5),(.int .i64 0)] w (pk K) fun t27 w=>
 CallX prog 31 #[(.int .i64 5),(.int .i64 0)] w (pk K) fun t28 w=>
 DoX prog (mBuildS 24 2 #[(0,t27),(1,t28)]) w (pk K) fun t29 w=>
 CallX prog 24 #[t29] w (pk K) fun t30 w=>
 DoX prog (mBuildS 24 4 #[(0,t24),(1,t25),(2,t26),(3,t30)]) w (pk K) fun t31 w=>
 CallX prog 53 #[t31] w (pk K) fun t32 w=>
 DoX prog (mAlloc 26) w (pk K) fun t4 w=>
 DoX prog (mStore 26 t4 t32) w (pk K) fun _ w=>
 CallX prog 54 #[(.string ⟨#[84,121,112,101]⟩)] w (pk K) fun t33 w=>
 CallX prog 54 #[(.string ⟨#[80,97,103,101]⟩)] w (pk K) fun t34 w=>
 CallX prog 54 #[(.string ⟨#[77,101,100,105,97,66,111,120]⟩)] w (pk K) fun t35 w=>
 CallX prog 34 #[(.int .i64 0),(.int .i64 0),(.int .i64 9),(.int .i64 9)] w (pk K) fun t36 w=>
 CallX prog 54 #[(.string ⟨#[67,114,111,112,66,111,120]⟩)] w (pk K) fun t37 w=>
 CallX prog 34 #[(.int .i64 5),(.int .i64 5),(.int .i64 20),(.int .i64 20)] w (pk K) fun t38 w=>
 CallX prog 54 #[(.string ⟨#[82,111,116,97,116,101]⟩)] w (pk K) fun t39 w=>
 CallX prog 26 #[(.int .i64 (-90))] w (pk K) fun t40 w=>
 DoX prog (mBuildS 24 8 #[(0,t33),(1,t34),(2,t35),(3,t36),(4,t37),(5,t38),(6,t39),(7,t40)]) w (pk K) fun t41 w=>
 CallX prog 53 #[t41] w (pk K) fun t42 w=>
 DoX prog (mAlloc 26) w (pk K) fun t5 w=>
 DoX prog (mStore 26 t5 t42) w (pk K) fun _ w=>
 HeldX w (fun S2 w=>
 HDo prog S2 (mLoad 26 t2) fun t43=>
 HDo prog (fun _=>True) (mBuild 53 #[(0,(.int .i64 1)),(2,t43)]) fun t44=>
 HDo prog S2 (mLoad 26 t3) fun t45=>
 HDo prog (fun _=>True) (mBuild 53 #[(0,(.int .i64 2)),(2,t45)]) fun t46=>
 HDo prog S2 (mLoad 26 t4) fun t47=>
 HDo prog (fun _=>True) (mBuild 53 #[(0,(.int .i64 3)),(2,t47)]) fun t48=>
 HDo prog S2 (mLoad 26 t5) fun t49=>
 HDo prog (fun _=>True) (mBuild 53 #[(0,(.int .i64 4)),(2,t49)]) fun t50=>
 HDo prog (fun _=>True) (mBuild 26 #[(0,(.int .i64 9)),(3,(.string ⟨#[113]⟩))]) fun t51=>
 HDo prog (fun _=>True) (mBuild 53 #[(0,(.int .i64 5)),(2,t51)]) fun t52=>
 (DoX prog (mBuildS 22 5 #[(0,t44),(1,t46),(2,t48),(3,t50),(4,t52)]) w (pm1 (pm1 (pm1 (pm1 (pm1 (pm1 (pm1 (pm1 (pm1 (pm1 (pm1 (pk K)))))))))))) fun t53 w=>
 S2 w∧(CallX prog 54 #[(.string ⟨#[82,111,111,116]⟩)] w (pm1 (pm1 (pm1 (pm1 (pm1 (pm1 (pm1 (pm1 (pm1 (pm1 (pm1 (pk K)))))))))))) fun t54 w=>
 S2 w∧(CallX prog 31 #[(.int .i64 1),(.int .i64 0)] w (pm1 (pm1 (pm1 (pm1 (pm1 (pm1 (pm1 (pm1 (pm1 (pm1 (pm1 (pk K)))))))))))) fun t55 w=>
 S2 w∧(DoX prog (mBuildS 24 2 #[(0,t54),(1,t55)]) w (pm1 (pm1 (pm1 (pm1 (pm1 (pm1 (pm1 (pm1 (pm1 (pm1 (pm1 (pk K)))))))))))) fun t56 w=>
 S2 w∧(CallX prog 53 #[t56] w (pm1 (pm1 (pm1 (pm1 (pm1 (pm1 (pm1 (pm1 (pm1 (pm1 (pm1 (pk K)))))))))))) fun t57 w=>
 S2 w∧(HDo prog (fun _=>True) (mBuild 28 #[(0,t53),(1,t57)]) fun t58=>
 DoX prog (mStore 28 t0 t58) w (pm1 (pm1 (pm1 (pm1 (pm1 (pm1 (pm1 (pm1 (pm1 (pm1 (pm1 (pk K)))))))))))) fun _ w=>
 (S_foliantlaw35_sample_1 t0 w K)))))))∧(CallX prog 54 #[(.string ⟨#[82,111,111,116]⟩)] w (pm1 (pm1 (pm1 (pm1 (pm1 (pm1 (pm1 (pm1 (pm1 (pm1 (pm1 (pk K)))))))))))) fun t54_1 w=>
 S2 w∧((DoX prog (mBuildS 22 5 #[(0,t44),(1,t46),(2,t48),(3,t50),(4,t52)]) w (pm1 (pm1 (pm1 (pm1 (pm1 (pm1 (pm1 (pm1 (pm1 (pm1 (pm1 (pk K)))))))))))) fun t53_1 w=>
 S2 w∧(CallX prog 31 #[(.int .i64 1),(.int .i64 0)] w (pm1 (pm1 (pm1 (pm1 (pm1 (pm1 (pm1 (pm1 (pm1 (pm1 (pm1 (pk K)))))))))))) fun t55_1 w=>
 S2 w∧(DoX prog (mBuildS 24 2 #[(0,t54_1),(1,t55_1)]) w (pm1 (pm1 (pm1 (pm1 (pm1 (pm1 (pm1 (pm1 (pm1 (pm1 (pm1 (pk K)))))))))))) fun t56_1 w=>
 S2 w∧(CallX prog 53 #[t56_1] w (pm1 (pm1 (pm1 (pm1 (pm1 (pm1 (pm1 (pm1 (pm1 (pm1 (pm1 (pk K)))))))))))) fun t57_1 w=>
 S2 w∧(HDo prog (fun _=>True) (mBuild 28 #[(0,t53_1),(1,t57_1)]) fun t58_1=>
 DoX prog (mStore 28 t0 t58_1) w (pm1 (pm1 (pm1 (pm1 (pm1 (pm1 (pm1 (pm1 (pm1 (pm1 (pm1 (pk K)))))))))))) fun _ w=>
 (S_foliantlaw35_sample_1 t0 w K))))))∧(CallX prog 31 #[(.int .i64 1),(.int .i64 0)] w (pm1 (pm1 (pm1 (pm1 (pm1 (pm1 (pm1 (pm1 (pm1 (pm1 (pm1 (pk K)))))))))))) fun t55_2 w=>
 S2 w∧((DoX prog (mBuildS 22 5 #[(0,t44),(1,t46),(2,t48),(3,t50),(4,t52)]) w (pm1 (pm1 (pm1 (pm1 (pm1 (pm1 (pm1 (pm1 (pm1 (pm1 (pm1 (pk K)))))))))))) fun t53_2 w=>
 S2 w∧(DoX prog (mBuildS 24 2 #[(0,t54_1),(1,t55_2)]) w (pm1 (pm1 (pm1 (pm1 (pm1 (pm1 (pm1 (pm1 (pm1 (pm1 (pm1 (pk K)))))))))))) fun t56_2 w=>
 S2 w∧(CallX prog 53 #[t56_2] w (pm1 (pm1 (pm1 (pm1 (pm1 (pm1 (pm1 (pm1 (pm1 (pm1 (pm1 (pk K)))))))))))) fun t57_2 w=>
 S2 w∧(HDo prog (fun _=>True) (mBuild 28 #[(0,t53_2),(1,t57_2)]) fun t58_2=>
 DoX prog (mStore 28 t0 t58_2) w (pm1 (pm1 (pm1 (pm1 (pm1 (pm1 (pm1 (pm1 (pm1 (pm1 (pm1 (pk K)))))))))))) fun _ w=>
 (S_foliantlaw35_sample_1 t0 w K)))))∧(DoX prog (mBuildS 24 2 #[(0,t54_1),(1,t55_2)]) w (pm1 (pm1 (pm1 (pm1 (pm1 (pm1 (pm1 (pm1 (pm1 (pm1 (pm1 (pk K)))))))))))) fun t56_3 w=>
 S2 w∧((DoX prog (mBuildS 22 5 #[(0,t44),(1,t46),(2,t48),(3,t50),(4,t52)]) w (pm1 (pm1 (pm1 (pm1 (pm1 (pm1 (pm1 (pm1 (pm1 (pm1 (pm1 (pk K)))))))))))) fun t53_3 w=>
 S2 w∧(CallX prog 53 #[t56_3] w (pm1 (pm1 (pm1 (pm1 (pm1 (pm1 (pm1 (pm1 (pm1 (pm1 (pm1 (pk K)))))))))))) fun t57_3 w=>
 S2 w∧(HDo prog (fun _=>True) (mBuild 28 #[(0,t53_3),(1,t57_3)]) fun t58_3=>
 DoX prog (mStore 28 t0 t58_3) w (pm1 (pm1 (pm1 (pm1 (pm1 (pm1 (pm1 (pm1 (pm1 (pm1 (pm1 (pk K)))))))))))) fun _ w=>
 (S_foliantlaw35_sample_1 t0 w K))))∧(CallX prog 53 #[t56_3] w (pm1 (pm1 (pm1 (pm1 (pm1 (pm1 (pm1 (pm1 (pm1 (pm1 (pm1 (pk K)))))))))))) fun t57_4 w=>
 S2 w∧(DoX prog (mBuildS 22 5 #[(0,t44),(1,t46),(2,t48),(3,t50),(4,t52)]) w (pm1 (pm1 (pm1 (pm1 (pm1 (pm1 (pm1 (pm1 (pm1 (pm1 (pm1 (pk K)))))))))))) fun t53_4 w=>
 S2 w∧(HDo prog (fun _=>True) (mBuild 28 #[(0,t53_4),(1,t57_4)]) fun t58_4=>
 DoX prog (mStore 28 t0 t58_4) w (pm1 (pm1 (pm1 (pm1 (pm1 (pm1 (pm1 (pm1 (pm1 (pm1 (pm1 (pk K)))))))))))) fun _ w=>
 (S_foliantlaw35_sample_1 t0 w K)))))))))))
def S_foliantlaw35_sample (w:World)(K:Ending→World→Prop):Prop:=
 DoX prog (mAlloc 28) w (pk K) fun t0 w=>
 CallX prog 31 #[(.int .i64 2),(.int .i64 0)] w (pk K) fun t6 w=>
 DoX prog (mAlloc 26) w (pk K) fun t1 w=>
 DoX prog (mStore 26 t1 t6) w (pk K) fun _ w=>
 HeldX w (fun S1 w=>
 HDo prog S1 (mLoad 26 t1) fun t10=>
 (CallX prog 54 #[(.string ⟨#[84,121,112,101]⟩)] w (pm1 (pk K)) fun t7 w=>
 S1 w∧((CallX prog 54 #[(.string ⟨#[67,97,116,97,108,111,103]⟩)] w (pm1 (pk K)) fun t8 w=>
 S1 w∧((CallX prog 54 #[(.string ⟨#[80,97,103,101,115]⟩)] w (pm1 (pk K)) fun t9 w=>
 S1 w∧((DoX prog (mBuildS 24 4 #[(0,t7),(1,t8),(2,t9),(3,t10)]) w (pm1 (pk K)) fun t11 w=>
 ((CallX prog 53 #[t11] w (pm1 (pk K)) fun t12 w=>
 S1 w∧(DoX prog (mAlloc 26) w (pm1 (pk K)) fun t2 w=>
 S1 w∧(DoX prog (mStore 26 t2 t12) w (pm1 (pk K)) fun _ w=>
 (S_foliantlaw35_sample_0 t0 t2 w K))))∧(DoX prog (mAlloc 26) w (pm1 (pk K)) fun t2_1 w=>
 S1 w∧(CallX prog 53 #[t11] w (pm1 (pk K)) fun t12_1 w=>
 S1 w∧(DoX prog (mStore 26 t2_1 t12_1) w (pm1 (pk K)) fun _ w=>
 (S_foliantlaw35_sample_0 t0 t2_1 w K))))))∧(DoX prog (mAlloc 26) w (pm1 (pk K)) fun t2_2 w=>
 S1 w∧(DoX prog (mBuildS 24 4 #[(0,t7),(1,t8),(2,t9),(3,t10)]) w (pm1 (pk K)) fun t11_1 w=>
 (CallX prog 53 #[t11_1] w (pm1 (pk K)) fun t12_2 w=>
 S1 w∧(DoX prog (mStore 26 t2_2 t12_2) w (pm1 (pk K)) fun _ w=>
 (S_foliantlaw35_sample_0 t0 t2_2 w K)))))))∧(DoX prog (mAlloc 26) w (pm1 (pk K)) fun t2_3 w=>
 S1 w∧(CallX prog 54 #[(.string ⟨#[80,97,103,101,115]⟩)] w (pm1 (pk K)) fun t9_1 w=>
 S1 w∧(DoX prog (mBuildS 24 4 #[(0,t7),(1,t8),(2,t9_1),(3,t10)]) w (pm1 (pk K)) fun t11_2 w=>
 (CallX prog 53 #[t11_2] w (pm1 (pk K)) fun t12_3 w=>
 S1 w∧(DoX prog (mStore 26 t2_3 t12_3) w (pm1 (pk K)) fun _ w=>
 (S_foliantlaw35_sample_0 t0 t2_3 w K))))))))∧(DoX prog (mAlloc 26) w (pm1 (pk K)) fun t2_4 w=>
 S1 w∧(CallX prog 54 #[(.string ⟨#[67,97,116,97,108,111,103]⟩)] w (pm1 (pk K)) fun t8_1 w=>
 S1 w∧(CallX prog 54 #[(.string ⟨#[80,97,103,101,115]⟩)] w (pm1 (pk K)) fun t9_2 w=>
 S1 w∧(DoX prog (mBuildS 24 4 #[(0,t7),(1,t8_1),(2,t9_2),(3,t10)]) w (pm1 (pk K)) fun t11_3 w=>
 (CallX prog 53 #[t11_3] w (pm1 (pk K)) fun t12_4 w=>
 S1 w∧(DoX prog (mStore 26 t2_4 t12_4) w (pm1 (pk K)) fun _ w=>
 (S_foliantlaw35_sample_0 t0 t2_4 w K)))))))))∧(DoX prog (mAlloc 26) w (pm1 (pk K)) fun t2_5 w=>
 S1 w∧(CallX prog 54 #[(.string ⟨#[84,121,112,101]⟩)] w (pm1 (pk K)) fun t7_1 w=>
 S1 w∧(CallX prog 54 #[(.string ⟨#[67,97,116,97,108,111,103]⟩)] w (pm1 (pk K)) fun t8_2 w=>
 S1 w∧(CallX prog 54 #[(.string ⟨#[80,97,103,101,115]⟩)] w (pm1 (pk K)) fun t9_3 w=>
 S1 w∧(DoX prog (mBuildS 24 4 #[(0,t7_1),(1,t8_2),(2,t9_3),(3,t10)]) w (pm1 (pk K)) fun t11_4 w=>
 (CallX prog 53 #[t11_4] w (pm1 (pk K)) fun t12_5 w=>
 S1 w∧(DoX prog (mStore 26 t2_5 t12_5) w (pm1 (pk K)) fun _ w=>
 (S_foliantlaw35_sample_0 t0 t2_5 w K)))))))))
theorem S_foliantlaw35_sample_eq (w:World)(K:Ending→World→Prop):wpX prog 59 [] [] none (bodyOf Tryz.f28) (topQ prog [.cell 0 28] K) (startX []) [] w=S_foliantlaw35_sample w K:=by kernel_rfl
theorem S_foliantlaw35_sample_ok {w:World}{K:Ending→World→Prop}(h:S_foliantlaw35_sample w K):Calls prog 28 #[] w K:=
 calls_of_wpX Tryz.func28 rfl rfl rfl rfl (Eq.mpr (S_foliantlaw35_sample_eq w K) h)
def S_foliantlaw35_lives_0 (t2 t3 t4 t5 t6 t7 t9 t10 t11 t13 t14 t15 t17:Value)(w:World)(K:Ending→World→Prop):Prop:=
 DoX prog (mBuild 28 #[]) w (pk K) fun t66 w=>
 CallX prog 10 #[t66] w (pk K) fun t67 w=>
 DoX prog (mExt t67 0) w (pk K) fun t68 w=>
 DoX prog (mExt t67 1) w (pk K) fun t69 w=>
 DoX prog (mEq .eql 3 (.tmp 70) (.const (.int .i64 2)) t2 (.int .i64 2)) w (pk K) fun t71 w=>
 GDo t71 true (fun E=>E t3 w) w fun t73 w=>
 GDo t71 true (fun E=>DoX prog (mEq .eql 32 (.tmp 73) (.const (.int .i64 0)) t73 (.int .i64 0)) w (pk K) E) w fun t74 w=>
 DoX prog (mPick t71 t74 (.bool false)) w (pk K) fun t75 w=>
 GDo t75 true (fun E=>E t5 w) w fun t77 w=>
 GDo t75 true (fun E=>DoX prog (mEq .eql 32 (.tmp 77) (.const (.int .i64 0)) t77 (.int .i64 0)) w (pk K) E) w fun t78 w=>
 DoX prog (mPick t75 t78 (.bool false)) w (pk K) fun t79 w=>
 GDo t79 true (fun E=>DoX prog (mFA 48 t4 0) w (pk K) E) w fun t81 w=>
 GDo t79 true (fun E=>DoX prog (mLoad 3 t81) w (pk K) E) w fun t82 w=>
 GDo t79 true (fun E=>DoX prog (mEq .eql 3 (.tmp 82) (.const (.int .i64 3)) t82 (.int .i64 3)) w (pk K) E) w fun t83 w=>
 DoX prog (mPick t79 t83 (.bool false)) w (pk K) fun t84 w=>
 GDo t84 true (fun E=>DoX prog (mFA 48 t4 1) w (pk K) E) w fun t86 w=>
 GDo t84 true (fun E=>DoX prog (mLoad 43 t86) w (pk K) E) w fun t87 w=>
 GDo t84 true (fun E=>DoX prog (mBuild 43 #[(0,(.int .i64 10000)),(1,(.int .i64 20000)),(2,(.int .i64 30000)),(3,(.int .i64 40000))]) w (pk K) E) w fun t88 w=>
 GDo t84 true (fun E=>DoX prog (mEq .eql 43 (.tmp 87) (.tmp 88) t87 t88) w (pk K) E) w fun t89 w=>
 DoX prog (mPick t84 t89 (.bool false)) w (pk K) fun t90 w=>
 GDo t90 true (fun E=>DoX prog (mFA 48 t4 2) w (pk K) E) w fun t92 w=>
 GDo t90 true (fun E=>DoX prog (mLoad 43 t92) w (pk K) E) w fun t93 w=>
 GDo t90 true (fun E=>DoX prog (mFA 48 t4 1) w (pk K) E) w fun t94 w=>
 GDo t90 true (fun E=>DoX prog (mLoad 43 t94) w (pk K) E) w fun t95 w=>
 GDo t90 true (fun E=>DoX prog (mEq .eql 43 (.tmp 93) (.tmp 95) t93 t95) w (pk K) E) w fun t96 w=>
 DoX prog (mPick t90 t96 (.bool false)) w (pk K) fun t97 w=>
 GDo t97 true (fun E=>E t7 w) w fun t99 w=>
 GDo t97 true (fun E=>DoX prog (mEq .eql 32 (.tmp 99) (.const (.int .i64 0)) t99 (.int .i64 0)) w (pk K) E) w fun t100 w=>
 DoX prog (mPick t97 t100 (.bool false)) w (pk K) fun t101 w=>
 GDo t101 true (fun E=>DoX prog (mFA 48 t6 2) w (pk K) E) w fun t103 w=>
 GDo t101 true (fun E=>DoX prog (mLoad 43 t103) w (pk K) E) w fun t104 w=>
 GDo t101 true (fun E=>DoX prog (mBuild 43 #[(0,(.int .i64 50000)),(1,(.int .i64 50000)),(2,(.int .i64 90000)),(3,(.int .i64 90000))]) w (pk K) E) w fun t105 w=>
 GDo t101 true (fun E=>DoX prog (mEq .eql 43 (.tmp 104) (.tmp 105) t104 t105) w (pk K) E) w fun t106 w=>
 DoX prog (mPick t101 t106 (.bool false)) w (pk K) fun t107 w=>
 GDo t107 true (fun E=>DoX prog (mFA 48 t6 3) w (pk K) E) w fun t109 w=>
 GDo t107 true (fun E=>DoX prog (mLoad 3 t109) w (pk K) E) w fun t110 w=>
 GDo t107 true (fun E=>DoX prog (mEq .eql 3 (.tmp 110) (.const (.int .i64 270)) t110 (.int .i64 270)) w (pk K) E) w fun t111 w=>
 DoX prog (mPick t107 t111 (.bool false)) w (pk K) fun t112 w=>
 GDo t112 true (fun E=>DoX prog (mFA 48 t6 4) w (pk K) E) w fun t114 w=>
 GDo t112 true (fun E=>DoX prog (mFA 26 t114 0) w (pk K) E) w fun t115 w=>
 GDo t112 true (fun E=>DoX prog (mLoad 3 t115) w (pk K) E) w fun t116 w=>
 GDo t112 true (fun E=>DoX prog (mEq .eql 3 (.tmp 116) (.const (.int .i64 7)) t116 (.int .i64 7)) w (pk K) E) w fun t117 w=>
 DoX prog (mPick t112 t117 (.bool false)) w (pk K) fun t118 w=>
 GDo t118 true (fun E=>E t9 w) w fun t120 w=>
 GDo t118 true (fun E=>DoX prog (mEq .eql 32 (.tmp 120) (.const (.int .i64 8)) t120 (.int .i64 8)) w (pk K) E) w fun t121 w=>
 DoX prog (mPick t118 t121 (.bool false)) w (pk K) fun t122 w=>
 GDo t122 true (fun E=>E t10 w) w fun t124 w=>
 GDo t122 true (fun E=>DoX prog (mEq .eql 3 (.tmp 124) (.const (.int .i64 1)) t124 (.int .i64 1)) w (pk K) E) w fun t125 w=>
 DoX prog (mPick t122 t125 (.bool false)) w (pk K) fun t126 w=>
 GDo t126 true (fun E=>E t11 w) w fun t128 w=>
 DoX prog (mPick t126 t128 (.bool false)) w (pk K) fun t129 w=>
 GDo t129 true (fun E=>E t13 w) w fun t131 w=>
 GDo t129 true (fun E=>DoX prog (mUn .not t131) w (pk K) E) w fun t132 w=>
 DoX prog (mPick t129 t132 (.bool false)) w (pk K) fun t133 w=>
 GDo t133 true (fun E=>E t14 w) w fun t135 w=>
 GDo t133 true (fun E=>DoX prog (mEq .eql 9 (.tmp 135) (.const (.string ⟨#[113,10,113]⟩)) t135 (.string ⟨#[113,10,113]⟩)) w (pk K) E) w fun t136 w=>
 DoX prog (mPick t133 t136 (.bool false)) w (pk K) fun t137 w=>
 GDo t137 true (fun E=>E t15 w) w fun t139 w=>
 GDo t137 true (fun E=>DoX prog (mEq .eql 32 (.tmp 139) (.const (.int .i64 0)) t139 (.int .i64 0)) w (pk K) E) w fun t140 w=>
 DoX prog (mPick t137 t140 (.bool false)) w (pk K) fun t141 w=>
 GDo t141 true (fun E=>E t17 w) w fun t143 w=>
 GDo t141 true (fun E=>DoX prog (mEq .eql 32 (.tmp 143) (.const (.int .i64 3)) t143 (.int .i64 3)) w (pk K) E) w fun t144 w=>
 DoX prog (mPick t141 t144 (.bool false)) w (pk K) fun t145 w=>
 GDo t145 true (fun E=>E t69 w) w fun t147 w=>
 GDo t145 true (fun E=>DoX prog (mEq .eql 32 (.tmp 147) (.const (.int .i64 10)) t147 (.int .i64 10)) w (pk K) E) w fun t148 w=>
 DoX prog (mPick t145 t148 (.bool false)) w (pk K) fun t149 w=>
 K (.returned t149) w
def S_foliantlaw35_lives (w:World)(K:Ending→World→Prop):Prop:=
 CallX prog 28 #[] w (pk K) fun t20 w=>
 DoX prog (mAlloc 28) w (pk K) fun t1 w=>
 DoX prog (mStore 28 t1 t20) w (pk K) fun _ w=>
 DoX prog (mLoad 28 t1) w (pk K) fun t22 w=>
 CallX prog 12 #[t22] w (pk K) fun t23 w=>
 DoX prog (mExt t23 0) w (pk K) fun t24 w=>
 DoX prog (mExt t23 1) w (pk K) fun t25 w=>
 DoX prog (mLoad 28 t1) w (pk K) fun t27 w=>
 CallX prog 20 #[t27,(.int .i64 0)] w (pk K) fun t28 w=>
 DoX prog (mExt t28 0) w (pk K) fun t29 w=>
 DoX prog (mExt t28 1) w (pk K) fun t30 w=>
 DoX prog (mAlloc 48) w (pk K) fun t4 w=>
 DoX prog (mStore 48 t4 t29) w (pk K) fun _ w=>
 DoX prog (mLoad 28 t1) w (pk K) fun t32 w=>
 CallX prog 20 #[t32,(.int .i64 1)] w (pk K) fun t33 w=>
 DoX prog (mExt t33 0) w (pk K) fun t34 w=>
 DoX prog (mExt t33 1) w (pk K) fun t35 w=>
 DoX prog (mAlloc 48) w (pk K) fun t6 w=>
 DoX prog (mStore 48 t6 t34) w (pk K) fun _ w=>
 DoX prog (mLoad 28 t1) w (pk K) fun t37 w=>
 CallX prog 20 #[t37,(.int .i64 2)] w (pk K) fun t38 w=>
 DoX prog (mExt t38 0) w (pk K) fun t39 w=>
 DoX prog (mExt t38 1) w (pk K) fun t40 w=>
 DoX prog (mAlloc 48) w (pk K) fun t8 w=>
 DoX prog (mStore 48 t8 t39) w (pk K) fun _ w=>
 DoX prog (mLoad 28 t1) w (pk K) fun t42 w=>
 CallX prog 14 #[t42,(.int .i64 4)] w (pk K) fun t43 w=>
 DoX prog (mExt t43 0) w (pk K) fun t44 w=>
 DoX prog (mExt t43 1) w (pk K) fun t45 w=>
 DoX prog (mLoad 28 t1) w (pk K) fun t47 w=>
 CallX prog 14 #[t47,(.int .i64 2)] w (pk K) fun t48 w=>
 DoX prog (mExt t48 0) w (pk K) fun t49 w=>
 DoX prog (mExt t48 1) w (pk K) fun t50 w=>
 DoX prog (mLoad 28 t1) w (pk K) fun t52 w=>
 CallX prog 32 #[t52,(.int .i64 0)] w (pk K) fun t53 w=>
 DoX prog (mExt t53 0) w (pk K) fun t54 w=>
 DoX prog (mExt t53 1) w (pk K) fun t55 w=>
 HeldX w (fun S1 w=>
 HDo prog S1 (mLoad 28 t1) fun t57=>
 (CallX prog 34 #[(.int .i64 1),(.int .i64 2),(.int .i64 3),(.int .i64 4)] w (pm1 (pm1 (pm1 (pm1 (pm1 (pm1 (pm1 (pk K)))))))) fun t58 w=>
 S1 w∧(HDo prog (fun _=>True) (mFld 26 t58 5) fun t59=>
 HDo prog (fun _=>True) (mIA 24 t59 (.int .i64 0)) fun t60=>
 (DoX prog (mLoad 26 t60) w (pm1 (pm1 (pm1 (pm1 (pm1 (pm1 (pm1 (pk K)))))))) fun t61 w=>
 S1 w∧((CallX prog 18 #[t57,t61] w (pm1 (pm1 (pm1 (pm1 (pm1 (pm1 (pm1 (pk K)))))))) fun t62 w=>
 (HDo prog (fun _=>True) (mExt t62 0) fun t63=>
 HDo prog (fun _=>True) (mExt t62 1) fun t64=>
 DoX prog (mAlloc 43) w (pm1 (pm1 (pm1 (pm1 (pm1 (pm1 (pm1 (pk K)))))))) fun t16 w=>
 S1 w∧(DoX prog (mStore 43 t16 t63) w (pm1 (pm1 (pm1 (pm1 (pm1 (pm1 (pm1 (pk K)))))))) fun _ w=>
 (S_foliantlaw35_lives_0 t24 t25 t4 t30 t6 t35 t40 t44 t45 t50 t54 t55 t64 w K))))∧(DoX prog (mAlloc 43) w (pm1 (pm1 (pm1 (pm1 (pm1 (pm1 (pm1 (pk K)))))))) fun t16_1 w=>
 S1 w∧(CallX prog 18 #[t57,t61] w (pm1 (pm1 (pm1 (pm1 (pm1 (pm1 (pm1 (pk K)))))))) fun t62_1 w=>
 (HDo prog (fun _=>True) (mExt t62_1 0) fun t63_1=>
 HDo prog (fun _=>True) (mExt t62_1 1) fun t64_1=>
 DoX prog (mStore 43 t16_1 t63_1) w (pm1 (pm1 (pm1 (pm1 (pm1 (pm1 (pm1 (pk K)))))))) fun _ w=>
 (S_foliantlaw35_lives_0 t24 t25 t4 t30 t6 t35 t40 t44 t45 t50 t54 t55 t64_1 w K))))))∧(DoX prog (mAlloc 43) w (pm1 (pm1 (pm1 (pm1 (pm1 (pm1 (pm1 (pk K)))))))) fun t16_2 w=>
 S1 w∧(DoX prog (mLoad 26 t60) w (pm1 (pm1 (pm1 (pm1 (pm1 (pm1 (pm1 (pk K)))))))) fun t61_1 w=>
 S1 w∧(CallX prog 18 #[t57,t61_1] w (pm1 (pm1 (pm1 (pm1 (pm1 (pm1 (pm1 (pk K)))))))) fun t62_2 w=>
 (HDo prog (fun _=>True) (mExt t62_2 0) fun t63_2=>
 HDo prog (fun _=>True) (mExt t62_2 1) fun t64_2=>
 DoX prog (mStore 43 t16_2 t63_2) w (pm1 (pm1 (pm1 (pm1 (pm1 (pm1 (pm1 (pk K)))))))) fun _ w=>
 (S_foliantlaw35_lives_0 t24 t25 t4 t30 t6 t35 t40 t44 t45 t50 t54 t55 t64_2 w K)))))))∧(DoX prog (mAlloc 43) w (pm1 (pm1 (pm1 (pm1 (pm1 (pm1 (pm1 (pk K)))))))) fun t16_3 w=>
 S1 w∧(CallX prog 34 #[(.int .i64 1),(.int .i64 2),(.int .i64 3),(.int .i64 4)] w (pm1 (pm1 (pm1 (pm1 (pm1 (pm1 (pm1 (pk K)))))))) fun t58_1 w=>
 S1 w∧(HDo prog (fun _=>True) (mFld 26 t58_1 5) fun t59_1=>
 HDo prog (fun _=>True) (mIA 24 t59_1 (.int .i64 0)) fun t60_1=>
 DoX prog (mLoad 26 t60_1) w (pm1 (pm1 (pm1 (pm1 (pm1 (pm1 (pm1 (pk K)))))))) fun t61_2 w=>
 S1 w∧(CallX prog 18 #[t57,t61_2] w (pm1 (pm1 (pm1 (pm1 (pm1 (pm1 (pm1 (pk K)))))))) fun t62_3 w=>
 (HDo prog (fun _=>True) (mExt t62_3 0) fun t63_3=>
 HDo prog (fun _=>True) (mExt t62_3 1) fun t64_3=>
 DoX prog (mStore 43 t16_3 t63_3) w (pm1 (pm1 (pm1 (pm1 (pm1 (pm1 (pm1 (pk K)))))))) fun _ w=>
 (S_foliantlaw35_lives_0 t24 t25 t4 t30 t6 t35 t40 t44 t45 t50 t54 t55 t64_3 w K)))))))
theorem S_foliantlaw35_lives_eq (w:World)(K:Ending→World→Prop):wpX prog 150 [] [] none (bodyOf Tryz.f9) (topQ prog [.tmp 0] K) (startX []) [] w=S_foliantlaw35_lives w K:=by kernel_rfl
theorem S_foliantlaw35_lives_ok {w:World}{K:Ending→World→Prop}(h:S_foliantlaw35_lives w K):Calls prog 9 #[] w K:=
 calls_of_wpX Tryz.func9 rfl rfl rfl rfl (Eq.mpr (S_foliantlaw35_lives_eq w K) h)
def S_foliantlaw35_PagesText_2 (t3 t5 t12 t13:Value)(w:World)(K:Ending→World→Prop):Prop:=
 DoX prog (mLoad 28 t3) w (pk K) fun t86 w=>
 DoX prog (mLoad 26 t12) w (pk K) fun t87 w=>
 DoX prog (mBuild 53 #[(0,(.int .i64 3)),(2,t87)]) w (pk K) fun t88 w=>
 CallX prog 27 #[t86,t88] w (pk K) fun t89 w=>
 DoX prog (mExt t89 0) w (pk K) fun t90 w=>
 DoX prog (mExt t89 1) w (pk K) fun t91 w=>
 DoX prog (mAlloc 28) w (pk K) fun t14 w=>
 DoX prog (mStore 28 t14 t90) w (pk K) fun _ w=>
 DoX prog (mLoad 28 t14) w (pk K) fun t93 w=>
 CallX prog 32 #[t93,(.int .i64 0)] w (pk K) fun t94 w=>
 DoX prog (mExt t94 0) w (pk K) fun t95 w=>
 DoX prog (mExt t94 1) w (pk K) fun t96 w=>
 DoX prog (mEq .eql 32 (.tmp 97) (.const (.int .i64 0)) t13 (.int .i64 0)) w (pk K) fun t98 w=>
 GDo t98 true (fun E=>E t91 w) w fun t100 w=>
 GDo t98 true (fun E=>DoX prog (mEq .eql 32 (.tmp 100) (.const (.int .i64 0)) t100 (.int .i64 0)) w (pk K) E) w fun t101 w=>
 DoX prog (mPick t98 t101 (.bool false)) w (pk K) fun t102 w=>
 GDo t102 true (fun E=>E t96 w) w fun t104 w=>
 GDo t102 true (fun E=>DoX prog (mEq .eql 32 (.tmp 104) (.const (.int .i64 0)) t104 (.int .i64 0)) w (pk K) E) w fun t105 w=>
 DoX prog (mPick t102 t105 (.bool false)) w (pk K) fun t106 w=>
 GDo t106 true (fun E=>E t95 w) w fun t108 w=>
 GDo t106 true (fun E=>E t5 w) w fun t109 w=>
 GDo t106 true (fun E=>DoX prog (mEq .eql 9 (.tmp 108) (.tmp 109) t108 t109) w (pk K) E) w fun t110 w=>
 DoX prog (mPick t106 t110 (.bool false)) w (pk K) fun t111 w=>
 GDo t111 true (fun E=>CallX prog 9 #[] w (pk K) E) w fun t113 w=>
 DoX prog (mPick t111 t113 (.bool false)) w (pk K) fun t114 w=>
 K (.returned t114) w
def S_foliantlaw35_PagesText_1 (t0 t4 t5 t6:Value)(w:World)(N1:List Value→World→Prop)(K:Ending→World→Prop):Prop:=
 DoX prog (mIA 23 t0 t6) w (pk K) fun t71 w=>
 DoX prog (mLoad 9 t71) w (pk K) fun t72 w=>
 DoX prog (mBin .add 9 t5 t72) w (pk K) fun t73 w=>
 DoX prog (mBin .add 3 t6 (.int .i64 1)) w (pk K) fun t28 w=>
 N1 [t4,t73,t28] w
def S_foliantlaw35_PagesText_0 (t0 t3 t4 t5 t6:Value)(w:World)(N1:List Value→World→Prop)(K:Ending→World→Prop):Prop:=
 DoX prog (mB .len #[23] 3 #[false] #[t0]) w (pk K) fun t25 w=>
 DoX prog (mBin .lss 3 t6 t25) w (pk K) fun t26 w=>
 IfX t26 (DoX prog (mIA 23 t0 t6) w (pk K) fun t31 w=>
 DoX prog (mLoad 9 t31) w (pk K) fun t32 w=>
 DoX prog (mB .len #[9] 3 #[false] #[t32]) w (pk K) fun t33 w=>
 DoX prog (mBin .gtr 3 t33 (.int .i64 100)) w (pk K) fun t34 w=>
 IfX t34 (CallX prog 9 #[] w (pk K) fun t35 w=>
 K (.returned t35) w) (DoX prog (mBuild 26 #[(0,(.int .i64 7))]) w (pk K) fun t37 w=>
 DoX prog (mIA 23 t0 t6) w (pk K) fun t40 w=>
 DoX prog (mLoad 9 t40) w (pk K) fun t41 w=>
 CallX prog 29 #[t37,t41] w (pk K) fun t42 w=>
 DoX prog (mExt t42 0) w (pk K) fun t43 w=>
 DoX prog (mExt t42 1) w (pk K) fun t44 w=>
 DoX prog (mAlloc 26) w (pk K) fun t7 w=>
 DoX prog (mStore 26 t7 t43) w (pk K) fun _ w=>
 DoX prog (mLoad 28 t3) w (pk K) fun t46 w=>
 DoX prog (mLoad 26 t7) w (pk K) fun t47 w=>
 CallX prog 30 #[t46,t47] w (pk K) fun t48 w=>
 DoX prog (mExt t48 0) w (pk K) fun t49 w=>
 DoX prog (mExt t48 1) w (pk K) fun t50 w=>
 DoX prog (mExt t48 2) w (pk K) fun t51 w=>
 DoX prog (mAlloc 28) w (pk K) fun t9 w=>
 DoX prog (mStore 28 t9 t49) w (pk K) fun _ w=>
 DoX prog (mEq .neq 32 (.tmp 52) (.const (.int .i64 0)) t44 (.int .i64 0)) w (pk K) fun t53 w=>
 GDo t53 false (fun E=>E t51 w) w fun t55 w=>
 GDo t53 false (fun E=>DoX prog (mEq .neq 32 (.tmp 55) (.const (.int .i64 0)) t55 (.int .i64 0)) w (pk K) E) w fun t56 w=>
 DoX prog (mPick t53 (.bool true) t56) w (pk K) fun t57 w=>
 IfX t57 (K (.returned (.bool false)) w) (DoX prog (mLoad 28 t9) w (pk K) fun t58 w=>
 DoX prog (mStore 28 t3 t58) w (pk K) fun _ w=>
 CallX prog 31 #[t50,(.int .i64 0)] w (pk K) fun t61 w=>
 DoX prog (mBuildS 24 1 #[(0,t61)]) w (pk K) fun t62 w=>
 DoX prog (mB .append #[24,24] 24 #[false,false] #[t4,t62]) w (pk K) fun t63 w=>
 JoinX (fun J2=>
 DoX prog (mBin .gtr 3 t6 (.int .i64 0)) w (pk K) fun t65 w=>
 IfX t65 (DoX prog (mBin .add 9 t5 (.string ⟨#[10]⟩)) w (pk K) fun t67 w=>
 J2 [t67] w) (J2 [t5] w)) (fun vs2 w=>∀_:Sg,S_foliantlaw35_PagesText_1 t0 t63 (vs2.getD 0 undef) t6 w N1 K)))) (HeldX w (fun S3 w=>
 HDo prog (fun _=>True) (mFA 28 t3 0) fun t75=>
 HDo prog S3 (mLoad 22 t75) fun t76=>
 HDo prog (fun _=>True) (mIA 22 t76 (.int .i64 2)) fun t77=>
 HDo prog (fun _=>True) (mFA 53 t77 2) fun t78=>
 HDo prog S3 (mLoad 26 t78) fun t79=>
 (CallX prog 24 #[t4] w (pm1 (pm1 (pm1 (pm1 (pm1 (pm1 (pm1 (pm1 (pm1 (pm1 (pk K))))))))))) fun t81 w=>
 S3 w∧((CallX prog 23 #[t79,(.string ⟨#[67,111,110,116,101,110,116,115]⟩),t81] w (pm1 (pm1 (pm1 (pm1 (pm1 (pm1 (pm1 (pm1 (pm1 (pm1 (pk K))))))))))) fun t82 w=>
 S3 w∧(HDo prog (fun _=>True) (mExt t82 0) fun t83=>
 HDo prog (fun _=>True) (mExt t82 1) fun t84=>
 DoX prog (mAlloc 26) w (pm1 (pm1 (pm1 (pm1 (pm1 (pm1 (pm1 (pm1 (pm1 (pm1 (pk K))))))))))) fun t12 w=>
 S3 w∧(DoX prog (mStore 26 t12 t83) w (pm1 (pm1 (pm1 (pm1 (pm1 (pm1 (pm1 (pm1 (pm1 (pm1 (pk K))))))))))) fun _ w=>
 (S_foliantlaw35_PagesText_2 t3 t5 t12 t84 w K))))∧(DoX prog (mAlloc 26) w (pm1 (pm1 (pm1 (pm1 (pm1 (pm1 (pm1 (pm1 (pm1 (pm1 (pk K))))))))))) fun t12_1 w=>
 S3 w∧(CallX prog 23 #[t79,(.string ⟨#[67,111,110,116,101,110,116,115]⟩),t81] w (pm1 (pm1 (pm1 (pm1 (pm1 (pm1 (pm1 (pm1 (pm1 (pm1 (pk K))))))))))) fun t82_1 w=>
 S3 w∧(HDo prog (fun _=>True) (mExt t82_1 0) fun t83_1=>
 HDo prog (fun _=>True) (mExt t82_1 1) fun t84_1=>
 DoX prog (mStore 26 t12_1 t83_1) w (pm1 (pm1 (pm1 (pm1 (pm1 (pm1 (pm1 (pm1 (pm1 (pm1 (pk K))))))))))) fun _ w=>
 (S_foliantlaw35_PagesText_2 t3 t5 t12_1 t84_1 w K))))))∧(DoX prog (mAlloc 26) w (pm1 (pm1 (pm1 (pm1 (pm1 (pm1 (pm1 (pm1 (pm1 (pm1 (pk K))))))))))) fun t12_2 w=>
 S3 w∧(CallX prog 24 #[t4] w (pm1 (pm1 (pm1 (pm1 (pm1 (pm1 (pm1 (pm1 (pm1 (pm1 (pk K))))))))))) fun t81_1 w=>
 S3 w∧(CallX prog 23 #[t79,(.string ⟨#[67,111,110,116,101,110,116,115]⟩),t81_1] w (pm1 (pm1 (pm1 (pm1 (pm1 (pm1 (pm1 (pm1 (pm1 (pm1 (pk K))))))))))) fun t82_2 w=>
 S3 w∧(HDo prog (fun _=>True) (mExt t82_2 0) fun t83_2=>
 HDo prog (fun _=>True) (mExt t82_2 1) fun t84_2=>
 DoX prog (mStore 26 t12_2 t83_2) w (pm1 (pm1 (pm1 (pm1 (pm1 (pm1 (pm1 (pm1 (pm1 (pm1 (pk K))))))))))) fun _ w=>
 (S_foliantlaw35_PagesText_2 t3 t5 t12_2 t84_2 w K)))))))
def S_foliantlaw35_PagesText (t0:Value)(w:World)(K:Ending→World→Prop):Prop:=
 DoX prog (mB .len #[23] 3 #[false] #[t0]) w (pk K) fun t19 w=>
 DoX prog (mBin .gtr 3 t19 (.int .i64 10)) w (pk K) fun t20 w=>
 IfX t20 (CallX prog 9 #[] w (pk K) fun t21 w=>
 K (.returned t21) w) (CallX prog 28 #[] w (pk K) fun t22 w=>
 DoX prog (mAlloc 28) w (pk K) fun t3 w=>
 DoX prog (mStore 28 t3 t22) w (pk K) fun _ w=>
 LoopX [(.slice none 0 0),(.string ⟨#[]⟩),(.int .i64 0)] w (fun vs1 w N1=>∀_:Sg,S_foliantlaw35_PagesText_0 t0 t3 (vs1.getD 0 undef) (vs1.getD 1 undef) (vs1.getD 2 undef) w N1 K))
theorem S_foliantlaw35_PagesText_eq (t0:Value)(w:World)(K:Ending→World→Prop):wpX prog 115 [(19,[5])] [(7,[4,5,6])] none (bodyOf Tryz.f7) (topQ prog [.tmp 2] K) (startX [t0]) [] w=S_foliantlaw35_PagesText t0 w K:=by kernel_rfl
theorem S_foliantlaw35_PagesText_ok {t0:Value}{w:World}{K:Ending→World→Prop}(h:S_foliantlaw35_PagesText t0 w K):Calls prog 7 #[t0] w K:=
 calls_of_wpX Tryz.func7 rfl rfl rfl rfl (Eq.mpr (S_foliantlaw35_PagesText_eq t0 w K) h)
end
section
open Eng Go.RowKit
namespace Pg
def flat (prs:List (List UInt8×Ob)):List Ob:=prs.flatMap fun p=>[nameO p.1,p.2]
def dictF (prs:List (List UInt8×Ob)):Ob:=prs.foldl (fun o p=>Vl.put o p.1 p.2) dict0
theorem flat_len:∀prs:List (List UInt8×Ob),(flat prs).length=2*prs.length
|[]=>rfl
|p::l=>by
  have:=flat_len l;unfold flat at this ⊢;rw[List.flatMap_cons,List.length_append,this,List.length_cons];simp;omega
theorem flat_at:∀(prs:List (List UInt8×Ob)) (i:Nat) (h:i < prs.length),(flat prs)[2*i]?=some (nameO prs[i].1)∧(flat prs)[2*i+1]?=some prs[i].2
|p::l,0,h=>⟨rfl,rfl⟩
|p::l,i+1,h=>by
  have:=flat_at l i (by simpa using h);unfold flat at this ⊢;rw[List.flatMap_cons,show 2*(i+1)=2*i+2 by omega,show 2*i+2+1=2*i+1+2 by omega];exact this
theorem dictF_take {prs:List (List UInt8×Ob)}{i:Nat}(h:i < prs.length):dictF (prs.take (i+1))=Vl.put (dictF (prs.take i)) prs[i].1 prs[i].2:=by
 unfold dictF;rw[List.take_succ_eq_append_getElem h,List.foldl_append];rfl
theorem dictF_lens:∀(prs:List (List UInt8×Ob)) (o:Ob),o.keys.length=o.kids.length→(prs.foldl (fun o p=>Vl.put o p.1 p.2) o).keys.length=(prs.foldl (fun o p=>Vl.put o p.1 p.2) o).kids.length
|[],o,h=>h
|p::l,o,h=>dictF_lens l _ (Vl.put_lens h)
def wtP (prs:List (List UInt8×Ob)):Nat:=(prs.map fun p=>p.1.length+1+p.2.wt).sum
theorem dictF_wt:∀(prs:List (List UInt8×Ob)) (o:Ob),(prs.foldl (fun o p=>Vl.put o p.1 p.2) o).wt≤o.wt+wtP prs
|[],o=>by simp[wtP]
|p::l,o=>by
  have h1:=dictF_wt l (Vl.put o p.1 p.2);have h2:=Vl.put_wt o p.1 p.2;simp only[List.foldl_cons,wtP,List.map_cons,List.sum_cons] at h1 ⊢;omega
theorem wtP_take (prs:List (List UInt8×Ob))(i:Nat):wtP (prs.take i)≤wtP prs:=by
 conv=>rhs;rw[←List.take_append_drop i prs]
 unfold wtP;rw[List.map_append,List.sum_append];omega
end Pg
theorem chn_cells {M:Mem}{v:Value}{l:List Ob}(h:Chn M.A M.w v l){i:Nat}{o:Ob}(hi:l[i]?=some o) :
  ∃xk xc b off,OV M.A M.w (obV o xk xc) o∧(∀W,(mIA 24 v (.int .i64 (i:Int))).run prog W=.ok (.value (.pointer (some ⟨b,off,none⟩))) W)∧∀W,M.has W→∀j u,(obC o xk xc)[j]?=some u→W.cell? ⟨b,off+j,none⟩=some u:=by
 obtain⟨hlt,rfl⟩:=List.getElem?_eq_some_iff.1 hi;obtain⟨cs,h1,h2⟩:=h;obtain⟨b,off,cap,rfl,_⟩:=sl_open h1.1 (by omega);obtain⟨a,hl,hov,hget⟩:=OVs.get _ _ i hlt h2;obtain⟨xk,xc,xcs,he,hxa⟩:=hov.open;have ha:a=obC l[i] xk xc:=by
  have:a.toArray=(obC l[i] xk xc).toArray:=by injection he
  simpa using congrArg Array.toList this
 refine⟨xk,xc,b,off+i*6,hxa.ov,fun W=>?_,fun W hW j u hj=>?_⟩
 ·refine (run_ia Tryz.underlying24 szOb (by omega) (by omega)).trans ?_;rw[Int.toNat_natCast]
 ·obtain⟨b',off',cap',e,hc⟩:=sl_open (h1.now hW) (by omega);cases e;rw[Nat.add_assoc];exact hc _ _ (hget j u (by rw[ha];exact hj))
theorem rdict5_ret (prs:List (List UInt8×Ob))(v:Value)(M:Mem)(w:World)(hn:(prs.map (·.1)).Nodup)(h0:∀p∈prs,p.2.k≠0)(hl:prs.length≤1000)(hw:Pg.wtP prs≤100000000)(hM:M.has w)(hc:Chn M.A M.w v (Pg.flat prs)) :
  RetM prog 83 #[v] M w (fun r N=>∃v',r=errV v' (Vl.right (Pg.dictF prs)).2∧OV N.A N.w v' (Vl.right (Pg.dictF prs)).1):=by
 refine retM_of hM fun K hK=>S_foliantref05_Dict_ok ?_;unfold S_foliantref05_Dict;refine o_oba (OwnS.memS hM) fun b2 w1 ho=>?_;have hfl:=Pg.flat_len prs;rw[hc.len (ho.hasM 1 rfl)];rw[b_rem (by omega),Int.tmod_eq_emod_of_nonneg (by omega)];simp only[rs];rw[decide_eq_false (by omega),i_f];refine loop (fun vs W=>∃(i:Nat) (z:Value),vs=[z,.int .i64 ((2*i:Nat):Int)]∧i≤prs.length∧OwnS M.A w W [obE b2 ob0 nilS nilS,.mem M]) (fun vs _=>2*prs.length - n1 vs) ⟨0,_,rfl,by omega,ho⟩ ?_;clear ho;rintro vs w2 ⟨i,z,rfl,hi,ho⟩ _;simp only[S_foliantref05_Dict_0,gd];rw[hc.len (ho.hasM 1 rfl)];simp only[rs];by_cases hlt:((2*i:Nat):Int) < ((Pg.flat prs).length:Int)
 ·have hi':i < prs.length:=by omega
  simp only[hlt,decide_true,i_t];obtain⟨xk,xc,b,off,hx,r1,r2⟩:=chn_cells hc (Pg.flat_at prs i hi').1;refine do_eq (r1 w2) |>.mpr ?_;rw[fa_o0];refine do_eq (run_load_cell nInt5 (r2 w2 (ho.hasM 1 rfl) 0 _ rfl)) |>.mpr ?_;simp only[rs,Pg.nameO,Ob.k,show decide ((5:Int)≠5)=false by decide];rw[wrap64_id (by omega) (by omega),show ((2*i:Nat):Int)+2=((2*(i+1):Nat):Int) by omega];exact nextX ⟨i+1,z,rfl,by omega,ho⟩ (by simp[n1,RowKit.intOf];omega)
 simp only[hlt,decide_false,i_f];rw[m_dict];refine o_oba ho fun b5 w3 ho=>?_;refine ob_put 0 rfl rfl ho rfl fun w4 ho=>?_;have hwt:∀i,(Pg.dictF (prs.take i)).wt≤100000100:=fun i=>by
  have h1:=Pg.dictF_wt (prs.take i) Pg.dict0;have h2:=Pg.wtP_take prs i;have h3:Pg.dict0.wt=6:=by rw[Vl.wt_eq];rfl
  unfold Pg.dictF;omega
 refine loop (fun vs W=>∃(i:Nat) (N:Mem) (z dk dc:Value),vs=[z,.int .i64 ((2*i:Nat):Int)]∧i≤prs.length∧M.le N∧OV N.A N.w (obV (Pg.dictF (prs.take i)) dk dc) (Pg.dictF (prs.take i))∧OwnS M.A w W [obE b5 (Pg.dictF (prs.take i)) dk dc,obE b2 ob0 nilS nilS,.mem N]) (fun vs _=>2*prs.length - n1 vs)
  ⟨0,M,_,nilS,nilS,rfl,by omega,M.le_refl,Pg.dict0_ov M,ho⟩ ?_
 clear ho hlt hi;rintro vs w5 ⟨i,N,z,dk,dc,rfl,hi,hle,hd,ho⟩ _;simp only[S_foliantref05_Dict_1,gd];have hcN:=hc.le hle;rw[hcN.len (ho.hasM 2 rfl)];simp only[rs];by_cases hlt:((2*i:Nat):Int) < ((Pg.flat prs).length:Int)
 ·have hi':i < prs.length:=by omega
  simp only[hlt,decide_true,i_t];refine join fun J hJ=>?_;obtain⟨xk,xc,b,off,hx,r1,r2⟩:=chn_cells hcN (Pg.flat_at prs i hi').1;obtain⟨yk,yc,bb,boff,hy,q1,q2⟩:=chn_cells hcN (Pg.flat_at prs i hi').2;refine loop (fun vs W=>∃(m:Nat) (z:Value),vs=[z,.int .i64 ((2*m:Nat):Int)]∧m≤i∧OwnS M.A w W [obE b5 (Pg.dictF (prs.take i)) dk dc,obE b2 ob0 nilS nilS,.mem N]) (fun vs _=>2*i - n1 vs) ⟨0,z,rfl,by omega,ho⟩ ?_;clear ho;rintro vs w6 ⟨m,z2,rfl,hm,ho⟩ _;simp only[S_foliantref05_Dict_2,gd,rs];by_cases hmi:((2*m:Nat):Int) < ((2*i:Nat):Int)
  ·have hm':m < prs.length:=by omega
   simp only[hmi,decide_true,i_t];obtain⟨uk,uc,ub,uoff,hu,s1,s2⟩:=chn_cells hcN (Pg.flat_at prs m hm').1;refine quietC (fun W=>OwnS M.A w W [obE b5 (Pg.dictF (prs.take i)) dk dc,obE b2 ob0 nilS nilS,.mem N]) ho.drew ?_;refine q_do _ s1 (q_do _ (fun _=>run_fa fo_o3) (q_at (.string ⟨prs[m].1.toArray⟩) (fun W h=>run_load_cell nStr5 (s2 W (h.hasM 2 rfl) 3 _ rfl)) ?_));refine q_do _ r1 (q_do _ (fun _=>run_fa fo_o3) (q_at (.string ⟨prs[i].1.toArray⟩) (fun W h=>run_load_cell nStr5 (r2 W (h.hasM 2 rfl) 3 _ rfl)) (q_seq ?_)));intro w7 ho;have hne:prs[m].1≠prs[i].1:=by
    have h4:=List.pairwise_iff_getElem.1 hn m i (by simpa using hm') (by simpa using hi') (by omega);rw[List.getElem_map,List.getElem_map] at h4;exact h4
   rw[decide_eq_false hne,i_f,wrap64_id (by omega) (by omega),show ((2*m:Nat):Int)+2=((2*(m+1):Nat):Int) by omega];exact nextX ⟨m+1,z2,rfl,by omega,ho⟩ (by simp[n1,RowKit.intOf];omega)
  ·simp only[hmi,decide_false,i_f];rw[wrap64_id (by omega) (by omega),show ((2*i:Nat):Int)+1=((2*i+1:Nat):Int) by omega];refine do_eq (q1 w6) |>.mpr ?_;rw[fa_o0];refine do_eq (run_load_cell nInt5 (q2 w6 (ho.hasM 2 rfl) 0 _ rfl)) |>.mpr ?_;have hk0:=h0 _ (List.getElem_mem hi');simp only[rs,hk0,ne_eq,not_false_eq_true,decide_true];refine quietC (fun W=>OwnS M.A w W [obE b5 (Pg.dictF (prs.take i)) dk dc,obE b2 ob0 nilS nilS,.mem N]) ho.drew ?_;refine q_at (obV (Pg.dictF (prs.take i)) dk dc) (fun W h=>run_obload (h.at_ 0 rfl)) ?_;refine q_do _ r1 (q_do _ (fun _=>run_fa fo_o3) (q_at (.string ⟨prs[i].1.toArray⟩) (fun W h=>run_load_cell nStr5 (r2 W (h.hasM 2 rfl) 3 _ rfl)) ?_));refine q_add ?_;rw[wrap64_id (by omega) (by omega),show ((2*i:Nat):Int)+1=((2*i+1:Nat):Int) by omega];refine q_do _ q1 (q_at (obV prs[i].2 yk yc) (fun W h=>run_load_at (AtV.agg aggOb (cs:=obC prs[i].2 yk yc) rfl fun j u hj=>q2 W (h.hasM 2 rfl) j u hj)) ?_);intro w7 ho;have hlen:(Pg.dictF (prs.take i)).keys.length=(Pg.dictF (prs.take i)).kids.length:=Pg.dictF_lens _ _ rfl;refine c_mem ho 2 rfl (rput_ret (Pg.dictF (prs.take i)) prs[i].2 _ _ prs[i].1 N w7 (by have:=hwt i;omega) (ho.hasM 2 rfl) hd hy hlen) fun e N2 w8 hle2 he ho=>?_;rw[←Pg.dictF_take hi'] at he;obtain⟨ek,ec,ecs,rfl,hea⟩:=he.open;refine ob_put 0 hea.keys.one hea.kids.one ho rfl fun w9 ho=>?_;refine hJ _ _ fun _=>?_;simp only[S_foliantref05_Dict_3,gd,rs];rw[wrap64_id (by omega) (by omega),show ((2*i:Nat):Int)+2=((2*(i+1):Nat):Int) by omega];exact nextX ⟨i+1,N2,z2,ek,ec,rfl,by omega,hle.trans hle2,he,ho⟩ (by simp[n1,RowKit.intOf];omega)
 ·simp only[hlt,decide_false,i_f];have hie:i=prs.length:=by omega
  subst hie;rw[List.take_length] at hd ho;have hwt':=hwt prs.length;rw[List.take_length] at hwt';rw[ob_v ho 0 rfl];refine c_mem ho 2 rfl (rright_ret (Pg.dictF prs) _ N w5 (by omega) (ho.hasM 2 rfl) hd) ?_;rintro _ N2 w6 hle2 ⟨y,rfl,hy⟩ ho;obtain⟨yk,yc,ycs,rfl,hya⟩:=hy.open;simp only[errV,ex];refine ob_put 1 hya.keys.one hya.kids.one ho rfl fun w7 ho=>?_;exact ret_ob2 1 ho rfl (hK _ _ N2 _ 2 ho rfl (hle.trans hle2) ⟨_,rfl,hy⟩)
end
section
open Eng Go.RowKit
theorem leaf_ov (M:Mem)(k n g:Int)(s:List UInt8):OV M.A M.w (obV (.mk k n g s [] []) nilS nilS) (.mk k n g s [] []):=ObAt.ov (cs:=[]) ⟨SlA.nil _ _ _ _,SlA.nil _ _ _ _,.nil⟩
theorem arr_ov {M:Mem}{v:Value}{l:List Ob}(h:Chn M.A M.w v l):OV M.A M.w (obV (Pg.arrO l) nilS v) (Pg.arrO l):=by
 obtain⟨cs,h1,h2⟩:=h;exact ObAt.ov (cs:=cs) ⟨SlA.nil _ _ _ _,h1,h2⟩
theorem lkey_ret (s:List UInt8)(w:World):Ret prog 54 #[.string ⟨s.toArray⟩] w (fun v w'=>v=obV (Pg.nameO s) nilS nilS∧Below w.heap.size w w'):=by
 refine ret_of fun K hK=>S_foliantlaw35_key_ok ?_;unfold S_foliantlaw35_key;refine o_oba (Own.start w) fun b2 w1 ho=>?_;refine c_below ho (R:=fun v=>v=obV (ob1 5 0 0 s) nilS nilS) (rkey05_ret s w1) ?_;rintro _ w2 rfl ho;refine ob_put 0 rfl rfl ho rfl fun w3 ho=>?_;exact ret_obi 0 ho rfl (hK _ _ ⟨rfl,ho.done⟩)
section
variable {w:World}{PK:PKT}{K:VWP}{S:Nat→Prop}{w0:World}{L:List Ent}
theorem c_key35 (s:List UInt8)(ho:OwnS S w0 w L)(k:∀W,OwnS S w0 W L→K (obV (Pg.nameO s) nilS nilS) W):CallX prog 54 #[.string ⟨s.toArray⟩] w PK K:=by
 refine c_below ho (R:=fun v=>v=obV (Pg.nameO s) nilS nilS) (lkey_ret s w) ?_;rintro _ w2 rfl ho;exact k w2 ho
theorem c_ref35 (n:Int)(ho:OwnS S w0 w L)(k:∀W,OwnS S w0 W L→K (obV (Pg.refO n) nilS nilS) W):CallX prog 31 #[.int .i64 n,.int .i64 0] w PK K:=by
 refine c_below ho (R:=fun v=>v=obV (ob1 8 n 0 []) nilS nilS) (rref05_ret n 0 w) ?_;rintro _ w2 rfl ho;exact k w2 ho
theorem c_int35 (n:Int)(ho:OwnS S w0 w L)(k:∀W,OwnS S w0 W L→K (obV (Pg.intO n) nilS nilS) W):CallX prog 26 #[.int .i64 n] w PK K:=by
 refine c_below ho (R:=fun v=>v=obV (ob1 2 n 0 []) nilS nilS) (rint05_ret n w) ?_;rintro _ w2 rfl ho;exact k w2 ho
theorem c_arr35 (l:List Ob)(a:Option Addr)(n c:Nat)(ho:OwnS S w0 w L)(k:∀W,OwnS S w0 W L→K (obV (Pg.arrO l) nilS (.slice a n c)) W):CallX prog 24 #[.slice a n c] w PK K:=by
 refine c_below ho (R:=fun v=>v=obV (Pg.arrO l) nilS (.slice a n c)) (rarr05_ret a n c l w) ?_;rintro _ w2 rfl ho;exact k w2 ho
theorem o_chn2 {o1:Ob}{a1:Option Addr}{n1 c1:Nat}{o2:Ob}{a2:Option Addr}{n2 c2:Nat}{M:Mem}(jm:Nat)(ho:OwnS S w0 w L)(hm:L[jm]?=some (.mem M))(h1:OV M.A M.w (obV o1 nilS (.slice a1 n1 c1)) o1)(h2:OV M.A M.w (obV o2 nilS (.slice a2 n2 c2)) o2)
  (k:∀(b:Nat) N W,M.le N→Chn N.A N.w (.slice (some ⟨b,0,none⟩) 2 2) [o1,o2]→OwnS S w0 W (L.set jm (.mem N))→K (.slice (some ⟨b,0,none⟩) 2 2) W):DoX prog (mBuildS 24 2 #[(0,obV o1 nilS (.slice a1 n1 c1)),(1,obV o2 nilS (.slice a2 n2 c2))]) w PK K:=by
 refine o_new (fun b=>.slice (some ⟨b,0,none⟩) 2 2) (obC o1 nilS (.slice a1 n1 c1)++(obC o2 nilS (.slice a2 n2 c2))) 26 (fun _=>by kernel_rfl) ho fun b w1 ho=>?_;have ho:=OwnS.toU (b:=b) (cs:=obC o1 nilS (.slice a1 n1 c1)++(obC o2 nilS (.slice a2 n2 c2))) (E:=26) ho 6 2 2 rfl (by omega) (by omega);obtain⟨N,hle,hrow,ho⟩:=OwnS.freezeU ho jm hm;exact k b N w1 hle ⟨_,hrow,ovs_app (ovs_1 (h1.le hle)) (ovs_1 (h2.le hle))⟩ ho
theorem o_chn4 {o1:Ob}{a1:Option Addr}{n1 c1:Nat}{o2:Ob}{a2:Option Addr}{n2 c2:Nat}{o3:Ob}{a3:Option Addr}{n3 c3:Nat}{o4:Ob}{a4:Option Addr}{n4 c4:Nat}{M:Mem}(jm:Nat)(ho:OwnS S w0 w L)(hm:L[jm]?=some (.mem M))(h1:OV M.A M.w (obV o1 nilS (.slice a1 n1 c1)) o1)(h2:OV M.A M.w (obV o2 nilS (.slice a2 n2 c2)) o2)(h3:OV M.A M.w (obV o3 nilS (.slice a3 n3 c3)) o3)(h4:OV M.A M.w (obV o4 nilS (.slice a4 n4 c4)) o4)
  (k:∀(b:Nat) N W,M.le N→Chn N.A N.w (.slice (some ⟨b,0,none⟩) 4 4) [o1,o2,o3,o4]→OwnS S w0 W (L.set jm (.mem N))→K (.slice (some ⟨b,0,none⟩) 4 4) W):DoX prog (mBuildS 24 4 #[(0,obV o1 nilS (.slice a1 n1 c1)),(1,obV o2 nilS (.slice a2 n2 c2)),(2,obV o3 nilS (.slice a3 n3 c3)),(3,obV o4 nilS (.slice a4 n4 c4))]) w PK K:=by
 refine o_new (fun b=>.slice (some ⟨b,0,none⟩) 4 4) (obC o1 nilS (.slice a1 n1 c1)++(obC o2 nilS (.slice a2 n2 c2)++(obC o3 nilS (.slice a3 n3 c3)++(obC o4 nilS (.slice a4 n4 c4))))) 26 (fun _=>by kernel_rfl) ho fun b w1 ho=>?_;have ho:=OwnS.toU (b:=b) (cs:=obC o1 nilS (.slice a1 n1 c1)++(obC o2 nilS (.slice a2 n2 c2)++(obC o3 nilS (.slice a3 n3 c3)++(obC o4 nilS (.slice a4 n4 c4))))) (E:=26) ho 6 4 4 rfl (by omega) (by omega);obtain⟨N,hle,hrow,ho⟩:=OwnS.freezeU ho jm hm;exact k b N w1 hle ⟨_,hrow,ovs_app (ovs_1 (h1.le hle)) (ovs_app (ovs_1 (h2.le hle)) (ovs_app (ovs_1 (h3.le hle)) (ovs_1 (h4.le hle))))⟩ ho
theorem o_chn6 {o1:Ob}{a1:Option Addr}{n1 c1:Nat}{o2:Ob}{a2:Option Addr}{n2 c2:Nat}{o3:Ob}{a3:Option Addr}{n3 c3:Nat}{o4:Ob}{a4:Option Addr}{n4 c4:Nat}{o5:Ob}{a5:Option Addr}{n5 c5:Nat}{o6:Ob}{a6:Option Addr}{n6 c6:Nat}{M:Mem}(jm:Nat)(ho:OwnS S w0 w L)(hm:L[jm]?=some (.mem M))(h1:OV M.A M.w (obV o1 nilS (.slice a1 n1 c1)) o1)(h2:OV M.A M.w (obV o2 nilS (.slice a2 n2 c2)) o2)(h3:OV M.A M.w (obV o3 nilS (.slice a3 n3 c3)) o3)(h4:OV M.A M.w (obV o4 nilS (.slice a4 n4 c4)) o4)(h5:OV M.A M.w (obV o5 nilS (.slice a5 n5 c5)) o5)(h6:OV M.A M.w (obV o6 nilS (.slice a6 n6 c6)) o6)
  (k:∀(b:Nat) N W,M.le N→Chn N.A N.w (.slice (some ⟨b,0,none⟩) 6 6) [o1,o2,o3,o4,o5,o6]→OwnS S w0 W (L.set jm (.mem N))→K (.slice (some ⟨b,0,none⟩) 6 6) W):DoX prog (mBuildS 24 6 #[(0,obV o1 nilS (.slice a1 n1 c1)),(1,obV o2 nilS (.slice a2 n2 c2)),(2,obV o3 nilS (.slice a3 n3 c3)),(3,obV o4 nilS (.slice a4 n4 c4)),(4,obV o5 nilS (.slice a5 n5 c5)),(5,obV o6 nilS (.slice a6 n6 c6))]) w PK K:=by
 refine o_new (fun b=>.slice (some ⟨b,0,none⟩) 6 6) (obC o1 nilS (.slice a1 n1 c1)++(obC o2 nilS (.slice a2 n2 c2)++(obC o3 nilS (.slice a3 n3 c3)++(obC o4 nilS (.slice a4 n4 c4)++(obC o5 nilS (.slice a5 n5 c5)++(obC o6 nilS (.slice a6 n6 c6))))))) 26 (fun _=>by kernel_rfl) ho fun b w1 ho=>?_;have ho:=OwnS.toU (b:=b) (cs:=obC o1 nilS (.slice a1 n1 c1)++(obC o2 nilS (.slice a2 n2 c2)++(obC o3 nilS (.slice a3 n3 c3)++(obC o4 nilS (.slice a4 n4 c4)++(obC o5 nilS (.slice a5 n5 c5)++(obC o6 nilS (.slice a6 n6 c6))))))) (E:=26) ho 6 6 6 rfl (by omega) (by omega);obtain⟨N,hle,hrow,ho⟩:=OwnS.freezeU ho jm hm;exact k b N w1 hle ⟨_,hrow,ovs_app (ovs_1 (h1.le hle)) (ovs_app (ovs_1 (h2.le hle)) (ovs_app (ovs_1 (h3.le hle)) (ovs_app (ovs_1 (h4.le hle)) (ovs_app (ovs_1 (h5.le hle)) (ovs_1 (h6.le hle))))))⟩ ho
theorem o_chn8 {o1:Ob}{a1:Option Addr}{n1 c1:Nat}{o2:Ob}{a2:Option Addr}{n2 c2:Nat}{o3:Ob}{a3:Option Addr}{n3 c3:Nat}{o4:Ob}{a4:Option Addr}{n4 c4:Nat}{o5:Ob}{a5:Option Addr}{n5 c5:Nat}{o6:Ob}{a6:Option Addr}{n6 c6:Nat}{o7:Ob}{a7:Option Addr}{n7 c7:Nat}{o8:Ob}{a8:Option Addr}{n8 c8:Nat}{M:Mem}(jm:Nat)(ho:OwnS S w0 w L)(hm:L[jm]?=some (.mem M))(h1:OV M.A M.w (obV o1 nilS (.slice a1 n1 c1)) o1)(h2:OV M.A M.w (obV o2 nilS (.slice a2 n2 c2)) o2)(h3:OV M.A M.w (obV o3 nilS (.slice a3 n3 c3)) o3)(h4:OV M.A M.w (obV o4 nilS (.slice a4 n4 c4)) o4)(h5:OV M.A M.w (obV o5 nilS (.slice a5 n5 c5)) o5)(h6:OV M.A M.w (obV o6 nilS (.slice a6 n6 c6)) o6)(h7:OV M.A M.w (obV o7 nilS (.slice a7 n7 c7)) o7)(h8:OV M.A M.w (obV o8 nilS (.slice a8 n8 c8)) o8)
  (k:∀(b:Nat) N W,M.le N→Chn N.A N.w (.slice (some ⟨b,0,none⟩) 8 8) [o1,o2,o3,o4,o5,o6,o7,o8]→OwnS S w0 W (L.set jm (.mem N))→K (.slice (some ⟨b,0,none⟩) 8 8) W):DoX prog (mBuildS 24 8 #[(0,obV o1 nilS (.slice a1 n1 c1)),(1,obV o2 nilS (.slice a2 n2 c2)),(2,obV o3 nilS (.slice a3 n3 c3)),(3,obV o4 nilS (.slice a4 n4 c4)),(4,obV o5 nilS (.slice a5 n5 c5)),(5,obV o6 nilS (.slice a6 n6 c6)),(6,obV o7 nilS (.slice a7 n7 c7)),(7,obV o8 nilS (.slice a8 n8 c8))]) w PK K:=by
 refine o_new (fun b=>.slice (some ⟨b,0,none⟩) 8 8) (obC o1 nilS (.slice a1 n1 c1)++(obC o2 nilS (.slice a2 n2 c2)++(obC o3 nilS (.slice a3 n3 c3)++(obC o4 nilS (.slice a4 n4 c4)++(obC o5 nilS (.slice a5 n5 c5)++(obC o6 nilS (.slice a6 n6 c6)++(obC o7 nilS (.slice a7 n7 c7)++(obC o8 nilS (.slice a8 n8 c8))))))))) 26 (fun _=>by kernel_rfl) ho fun b w1 ho=>?_;have ho:=OwnS.toU (b:=b) (cs:=obC o1 nilS (.slice a1 n1 c1)++(obC o2 nilS (.slice a2 n2 c2)++(obC o3 nilS (.slice a3 n3 c3)++(obC o4 nilS (.slice a4 n4 c4)++(obC o5 nilS (.slice a5 n5 c5)++(obC o6 nilS (.slice a6 n6 c6)++(obC o7 nilS (.slice a7 n7 c7)++(obC o8 nilS (.slice a8 n8 c8))))))))) (E:=26) ho 6 8 8 rfl (by omega) (by omega);obtain⟨N,hle,hrow,ho⟩:=OwnS.freezeU ho jm hm;exact k b N w1 hle ⟨_,hrow,ovs_app (ovs_1 (h1.le hle)) (ovs_app (ovs_1 (h2.le hle)) (ovs_app (ovs_1 (h3.le hle)) (ovs_app (ovs_1 (h4.le hle)) (ovs_app (ovs_1 (h5.le hle)) (ovs_app (ovs_1 (h6.le hle)) (ovs_app (ovs_1 (h7.le hle)) (ovs_1 (h8.le hle))))))))⟩ ho
end
theorem lbox_ret (a b c e:Int)(M:Mem)(w:World)(hM:M.has w):RetM prog 34 #[.int .i64 a,.int .i64 b,.int .i64 c,.int .i64 e] M w (fun r N=>∃p n m,r=obV (Pg.boxI a b c e) nilS (.slice p n m)∧Chn N.A N.w (.slice p n m) [Pg.intO a,Pg.intO b,Pg.intO c,Pg.intO e]):=by
 refine retM_of hM fun K hK=>S_foliantlaw35_box_ok ?_;unfold S_foliantlaw35_box;refine o_oba (OwnS.memS hM) fun b8 w1 ho=>?_;refine c_int35 a ho fun w2 ho=>c_int35 b ho fun w3 ho=>c_int35 c ho fun w4 ho=>c_int35 e ho fun w5 ho=>?_;refine o_chn4 1 ho rfl (leaf_ov M _ _ _ _) (leaf_ov M _ _ _ _) (leaf_ov M _ _ _ _) (leaf_ov M _ _ _ _) fun nb N w6 hle hc ho=>?_;refine c_arr35 [Pg.intO a,Pg.intO b,Pg.intO c,Pg.intO e] _ _ _ ho fun w7 ho=>?_;refine ob_put 0 rfl rfl ho rfl fun w8 ho=>?_;exact ret_obi 0 ho rfl (hK _ _ N _ 1 ho rfl hle ⟨_,_,_,rfl,hc⟩)
theorem ldict_ret (prs:List (List UInt8×Ob))(D:Ob)(hD:Vl.right (Pg.dictF prs)=(D,0))(v:Value)(M:Mem)(w:World)(hn:(prs.map (·.1)).Nodup)(h0:∀p∈prs,p.2.k≠0)(hl:prs.length≤1000)(hw:Pg.wtP prs≤100000000)(hM:M.has w)(hc:Chn M.A M.w v (Pg.flat prs)) :
  RetM prog 53 #[v] M w (fun r N=>OV N.A N.w r D):=by
 refine retM_of hM fun K hK=>S_foliantlaw35_dict_ok ?_;unfold S_foliantlaw35_dict;refine o_oba (OwnS.memS hM) fun b2 w1 ho=>?_;refine c_mem ho 1 rfl (rdict5_ret prs v M w1 hn h0 hl hw (ho.hasM 1 rfl) hc) ?_;rintro _ N w2 hle ⟨y,rfl,hy⟩ ho;rw[hD] at hy;obtain⟨yk,yc,ycs,rfl,hya⟩:=hy.open;simp only[errV,ex];refine o_oba ho fun b3 w3 ho=>?_;refine ob_put 0 hya.keys.one hya.kids.one ho rfl fun w4 ho=>?_;rw[ob_v ho 0 rfl];refine ob_put 1 hya.keys.one hya.kids.one ho rfl fun w5 ho=>?_;exact ret_obi 1 ho rfl (hK _ _ N _ 2 ho rfl hle hy)
def rootP:List (List UInt8×Ob):=[(Dk.typeK,Pg.nameO Pg.catN),(Pg.pagesN,Pg.refO 2)]
def treeP:List (List UInt8×Ob):=[(Dk.typeK,Pg.nameO Pg.pagesN),(Pg.kidsK,Pg.arrO [Pg.refO 3,Pg.refO 4]),(Pg.mediaK,Pg.boxI 3 4 1 2)]
def oneP:List (List UInt8×Ob):=[(Dk.typeK,Pg.nameO Pg.pageN),(Pg.conK,Pg.conS)]
def twoP:List (List UInt8×Ob):=[(Dk.typeK,Pg.nameO Pg.pageN),(Pg.mediaK,Pg.boxI 0 0 9 9),(Pg.cropK,Pg.boxI 5 5 20 20),(Pg.rotK,Pg.intO (-90))]
def trP:List (List UInt8×Ob):=[(Dk.rootK,Pg.refO 1)]
theorem rootP_ok:Vl.right (Pg.dictF rootP)=(Pg.rootO,0):=by kernel_rfl
theorem treeP_ok:Vl.right (Pg.dictF treeP)=(Pg.treeO,0):=by kernel_rfl
theorem oneP_ok:Vl.right (Pg.dictF oneP)=(Pg.oneO Pg.conS,0):=by kernel_rfl
theorem twoP_ok:Vl.right (Pg.dictF twoP)=(Pg.twoO,0):=by kernel_rfl
theorem trP_ok:Vl.right (Pg.dictF trP)=(Pg.trO,0):=by kernel_rfl
end
section
open Eng Go.RowKit
theorem rootP_k:∀p∈rootP,p.2.k≠0:=by decide
theorem treeP_k:∀p∈treeP,p.2.k≠0:=by decide
theorem oneP_k:∀p∈oneP,p.2.k≠0:=by decide
theorem twoP_k:∀p∈twoP,p.2.k≠0:=by decide
theorem trP_k:∀p∈trP,p.2.k≠0:=by decide
theorem ov_forms {A:Nat→Prop}{w:World}{o:Ob}{vk vc:Value}(h:OV A w (obV o vk vc) o):∃a n c a2 n2 c2,vk=.slice a n c∧vc=.slice a2 n2 c2:=by
 obtain⟨cs,ha⟩:=h.slices;obtain⟨a,c,rfl,_⟩:=ha.keys.form;obtain⟨a2,c2,rfl,_⟩:=ha.kids.form;exact⟨_,_,_,_,_,_,rfl,rfl⟩
section
variable {w:World}{PK:PKT}{K:VWP}{S:Nat→Prop}{w0:World}{L:List Ent}
theorem c_dict35 (prs:List (List UInt8×Ob))(D:Ob)(hD:Vl.right (Pg.dictF prs)=(D,0))(hn:(prs.map (·.1)).Nodup)(h0:∀p∈prs,p.2.k≠0)(hl:prs.length≤1000)(hw:Pg.wtP prs≤100000000){v:Value}{M:Mem}(jm:Nat)(ho:OwnS S w0 w L)(hm:L[jm]?=some (.mem M))(hc:Chn M.A M.w v (Pg.flat prs))
  (k:∀N a n c a2 n2 c2 W,M.le N→OV N.A N.w (obV D (.slice a n c) (.slice a2 n2 c2)) D→OwnS S w0 W (L.set jm (.mem N))→K (obV D (.slice a n c) (.slice a2 n2 c2)) W):CallX prog 53 #[v] w PK K:=by
 refine c_mem ho jm hm (ldict_ret prs D hD v M w hn h0 hl hw (ho.hasM jm hm) hc) fun y N w1 hle hy ho=>?_;obtain⟨yk,yc,ycs,rfl,hya⟩:=hy.open;obtain⟨a,n,c,a2,n2,c2,rfl,rfl⟩:=ov_forms hy;exact k N a n c a2 n2 c2 w1 hle hy ho
theorem c_box35 (a b c e:Int){M:Mem}(jm:Nat)(ho:OwnS S w0 w L)(hm:L[jm]?=some (.mem M))
  (k:∀N p n m W,M.le N→OV N.A N.w (obV (Pg.boxI a b c e) nilS (.slice p n m)) (Pg.boxI a b c e)→OwnS S w0 W (L.set jm (.mem N))→K (obV (Pg.boxI a b c e) nilS (.slice p n m)) W):CallX prog 34 #[.int .i64 a,.int .i64 b,.int .i64 c,.int .i64 e] w PK K:=by
 refine c_mem ho jm hm (lbox_ret a b c e M w (ho.hasM jm hm)) ?_;rintro _ N w1 hle ⟨p,n,m,rfl,hc⟩ ho;exact k N p n m w1 hle (arr_ov hc) ho
theorem o_items5 {k1:Option Addr}{x1 y1:Nat}{l1:Option Addr}{u1 v1:Nat}{k2:Option Addr}{x2 y2:Nat}{l2:Option Addr}{u2 v2:Nat}{k3:Option Addr}{x3 y3:Nat}{l3:Option Addr}{u3 v3:Nat}{k4:Option Addr}{x4 y4:Nat}{l4:Option Addr}{u4 v4:Nat}{M:Mem}(jm:Nat)(ho:OwnS S w0 w L)(hm:L[jm]?=some (.mem M))(h1:OV M.A M.w (obV Pg.rootO (.slice k1 x1 y1) (.slice l1 u1 v1)) Pg.rootO)(h2:OV M.A M.w (obV Pg.treeO (.slice k2 x2 y2) (.slice l2 u2 v2)) Pg.treeO)(h3:OV M.A M.w (obV (Pg.oneO Pg.conS) (.slice k3 x3 y3) (.slice l3 u3 v3)) (Pg.oneO Pg.conS))(h4:OV M.A M.w (obV Pg.twoO (.slice k4 x4 y4) (.slice l4 u4 v4)) Pg.twoO)
  (k:∀(b:Nat) N W (ics:List Value),M.le N→SlA N.A N.w (.slice (some ⟨b,0,none⟩) 5 5) 8 5 ics→IVs N.A N.w ics Pg.docS.items→OwnS S w0 W (L.set jm (.mem N))→K (.slice (some ⟨b,0,none⟩) 5 5) W) :
  DoX prog (mBuildS 22 5 #[(0,itV ⟨1,0,Pg.rootO⟩ (.slice k1 x1 y1) (.slice l1 u1 v1)),(1,itV ⟨2,0,Pg.treeO⟩ (.slice k2 x2 y2) (.slice l2 u2 v2)),(2,itV ⟨3,0,Pg.oneO Pg.conS⟩ (.slice k3 x3 y3) (.slice l3 u3 v3)),(3,itV ⟨4,0,Pg.twoO⟩ (.slice k4 x4 y4) (.slice l4 u4 v4)),(4,itV ⟨5,0,Pg.strmO [113]⟩ nilS nilS)]) w PK K:=by
 refine o_new (fun b=>.slice (some ⟨b,0,none⟩) 5 5) (itC ⟨1,0,Pg.rootO⟩ (.slice k1 x1 y1) (.slice l1 u1 v1)++(itC ⟨2,0,Pg.treeO⟩ (.slice k2 x2 y2) (.slice l2 u2 v2)++(itC ⟨3,0,(Pg.oneO Pg.conS)⟩ (.slice k3 x3 y3) (.slice l3 u3 v3)++(itC ⟨4,0,Pg.twoO⟩ (.slice k4 x4 y4) (.slice l4 u4 v4)++(itC ⟨5,0,Pg.strmO [113]⟩ nilS nilS))))) 53 (fun _=>by kernel_rfl) ho fun b w1 ho=>?_;have ho:=OwnS.toU (b:=b) (cs:=itC ⟨1,0,Pg.rootO⟩ (.slice k1 x1 y1) (.slice l1 u1 v1)++(itC ⟨2,0,Pg.treeO⟩ (.slice k2 x2 y2) (.slice l2 u2 v2)++(itC ⟨3,0,(Pg.oneO Pg.conS)⟩ (.slice k3 x3 y3) (.slice l3 u3 v3)++(itC ⟨4,0,Pg.twoO⟩ (.slice k4 x4 y4) (.slice l4 u4 v4)++(itC ⟨5,0,Pg.strmO [113]⟩ nilS nilS))))) (E:=53) ho 8 5 5 rfl (by omega) (by omega);obtain⟨N,hle,hrow,ho⟩:=OwnS.freezeU ho jm hm;refine k b N w1 (itC ⟨1,0,Pg.rootO⟩ (.slice k1 x1 y1) (.slice l1 u1 v1)++(itC ⟨2,0,Pg.treeO⟩ (.slice k2 x2 y2) (.slice l2 u2 v2)++(itC ⟨3,0,(Pg.oneO Pg.conS)⟩ (.slice k3 x3 y3) (.slice l3 u3 v3)++(itC ⟨4,0,Pg.twoO⟩ (.slice k4 x4 y4) (.slice l4 u4 v4)++(itC ⟨5,0,Pg.strmO [113]⟩ nilS nilS))))) hle hrow ?_ ho;show Rws (itR N.A N.w) _ ([⟨1,0,Pg.rootO⟩,⟨2,0,Pg.treeO⟩,⟨3,0,Pg.oneO Pg.conS⟩,⟨4,0,Pg.twoO⟩,⟨5,0,Pg.strmO [113]⟩]:List It);exact .cons ⟨_,_,rfl,h1.le hle⟩ (.cons ⟨_,_,rfl,h2.le hle⟩ (.cons ⟨_,_,rfl,h3.le hle⟩ (.cons ⟨_,_,rfl,h4.le hle⟩ (Rws.snoc (cs:=[]) (xs:=[]) ⟨nilS,nilS,rfl,leaf_ov N _ _ _ _⟩ .nil))))
end
theorem run_mit {W:World}{n:Int}{o:Ob}{a:Option Addr}{x y:Nat}{b:Option Addr}{u v:Nat}:(mBuild 53 #[(0,.int .i64 n),(2,obV o (.slice a x y) (.slice b u v))]).run prog W=.ok (.value (itV ⟨n,0,o⟩ (.slice a x y) (.slice b u v))) W:=by kernel_rfl
theorem run_mstrm {W:World}:(mBuild 26 #[(0,.int .i64 9),(3,.string ⟨#[113]⟩)]).run prog W=.ok (.value (obV (Pg.strmO [113]) nilS nilS)) W:=by kernel_rfl
theorem run_mdoc {W:World}{o:Ob}{its:List It}{q:Option Addr}{r s:Nat}{a:Option Addr}{x y:Nat}{b:Option Addr}{u v:Nat}:(mBuild 28 #[(0,.slice q r s),(1,obV o (.slice a x y) (.slice b u v))]).run prog W=.ok (.value (dcV ⟨its,o⟩ (.slice q r s) (.slice a x y) (.slice b u v))) W:=by kernel_rfl
theorem lsample_ret (M:Mem)(w:World)(hM:M.has w):RetM prog 28 #[] M w (fun r N=>DV N.A N.w r Pg.docS):=by
 refine retM_of hM fun K hK=>S_foliantlaw35_sample_ok ?_;unfold S_foliantlaw35_sample;refine o_dca (OwnS.memS hM) fun b0 w1 ho=>?_;refine c_ref35 2 ho fun w2 ho=>?_;refine o_oba ho fun b1 w3 ho=>?_;refine ob_put 0 rfl rfl ho rfl fun w4 ho=>?_;have ho:OwnS M.A w w4 [obE b1 (Pg.refO 2) nilS nilS,dcE b0 Dk.dc0 nilS nilS nilS,.mem M]:=ho;have fin:∀{W:World} {N:Mem} {b2:Nat} {a:Option Addr} {n c:Nat} {a2:Option Addr} {n2 c2:Nat},M.le N→OV N.A N.w (obV Pg.rootO (.slice a n c) (.slice a2 n2 c2)) Pg.rootO→OwnS M.A w W [obE b2 Pg.rootO (.slice a n c) (.slice a2 n2 c2),obE b1 (Pg.refO 2) nilS nilS,dcE b0 Dk.dc0 nilS nilS nilS,.mem N]→S_foliantlaw35_sample_0 (.pointer (some ⟨b0,0,none⟩)) (.pointer (some ⟨b2,0,none⟩)) W K:=by
  intro W N b2 a n c a2 n2 c2 hle h1 ho;unfold S_foliantlaw35_sample_0;refine c_key35 Dk.typeK ho fun z1 ho=>c_key35 Pg.pagesN ho fun z2 ho=>c_key35 Pg.kidsK ho fun z3 ho=>c_ref35 3 ho fun z4 ho=>c_ref35 4 ho fun z5 ho=>?_;refine o_chn2 3 ho rfl (leaf_ov _ _ _ _ _) (leaf_ov _ _ _ _ _) fun nb1 Q1 z6 e1 hk1 ho=>?_;refine c_arr35 [Pg.refO 3,Pg.refO 4] _ _ _ ho fun z7 ho=>c_key35 Pg.mediaK ho fun z8 ho=>?_;refine c_box35 3 4 1 2 3 ho rfl fun Q2 p1 p2 p3 z9 e2 hb1 ho=>?_;refine o_chn6 3 ho rfl (leaf_ov _ _ _ _ _) (leaf_ov _ _ _ _ _) (leaf_ov _ _ _ _ _) ((arr_ov hk1).le e2) (leaf_ov _ _ _ _ _) hb1 fun nb2 Q3 z10 e3 hch ho=>?_;refine c_dict35 treeP Pg.treeO treeP_ok (by decide) treeP_k (by decide) (by decide +kernel) 3 ho rfl hch fun Q4 k2 x2 y2 l2 u2 v2 z11 e4 h2 ho=>?_;refine o_oba ho fun b3 z12 ho=>?_;refine ob_put 0 rfl rfl ho rfl fun z13 ho=>?_;have hc1:=((e1.trans e2).trans e3).trans e4;have ho:OwnS M.A w z13 [obE b3 Pg.treeO (.slice k2 x2 y2) (.slice l2 u2 v2),obE b2 Pg.rootO (.slice a n c) (.slice a2 n2 c2),obE b1 (Pg.refO 2) nilS nilS,dcE b0 Dk.dc0 nilS nilS nilS,.mem Q4]:=ho;refine c_key35 Dk.typeK ho fun z1 ho=>c_key35 Pg.pageN ho fun z2 ho=>c_key35 Pg.conK ho fun z3 ho=>c_ref35 5 ho fun z4 ho=>c_ref35 5 ho fun z5 ho=>?_;refine o_chn2 4 ho rfl (leaf_ov _ _ _ _ _) (leaf_ov _ _ _ _ _) fun nb3 Q5 z6 e5 hk2 ho=>?_;refine c_arr35 [Pg.refO 5,Pg.refO 5] _ _ _ ho fun z7 ho=>?_;refine o_chn4 4 ho rfl (leaf_ov _ _ _ _ _) (leaf_ov _ _ _ _ _) (leaf_ov _ _ _ _ _) (arr_ov hk2) fun nb4 Q6 z10 e6 hch ho=>?_;refine c_dict35 oneP (Pg.oneO Pg.conS) oneP_ok (by decide) oneP_k (by decide) (by decide +kernel) 4 ho rfl hch fun Q7 k3 x3 y3 l3 u3 v3 z11 e7 h3 ho=>?_;refine o_oba ho fun b4 z12 ho=>?_;refine ob_put 0 rfl rfl ho rfl fun z13 ho=>?_;have hc2:=(e5.trans e6).trans e7;have ho:OwnS M.A w z13 [obE b4 (Pg.oneO Pg.conS) (.slice k3 x3 y3) (.slice l3 u3 v3),obE b3 Pg.treeO (.slice k2 x2 y2) (.slice l2 u2 v2),obE b2 Pg.rootO (.slice a n c) (.slice a2 n2 c2),obE b1 (Pg.refO 2) nilS nilS,dcE b0 Dk.dc0 nilS nilS nilS,.mem Q7]:=ho;refine c_key35 Dk.typeK ho fun z1 ho=>c_key35 Pg.pageN ho fun z2 ho=>c_key35 Pg.mediaK ho fun z3 ho=>?_;refine c_box35 0 0 9 9 5 ho rfl fun Q8 q1 q2 q3 z4 e8 hb2 ho=>?_;refine c_key35 Pg.cropK ho fun z5 ho=>?_;refine c_box35 5 5 20 20 5 ho rfl fun Q9 r1 r2 r3 z6 e9 hb3 ho=>?_;refine c_key35 Pg.rotK ho fun z7 ho=>c_int35 (-90) ho fun z8 ho=>?_;refine o_chn8 5 ho rfl (leaf_ov _ _ _ _ _) (leaf_ov _ _ _ _ _) (leaf_ov _ _ _ _ _) (hb2.le e9) (leaf_ov _ _ _ _ _) hb3 (leaf_ov _ _ _ _ _) (leaf_ov _ _ _ _ _) fun nb5 Q10 z9 e10 hch ho=>?_;refine c_dict35 twoP Pg.twoO twoP_ok (by decide) twoP_k (by decide) (by decide +kernel) 5 ho rfl hch fun Q11 k4 x4 y4 l4 u4 v4 z11 e11 h4 ho=>?_;refine o_oba ho fun b5 z12 ho=>?_;refine ob_put 0 rfl rfl ho rfl fun z13 ho=>?_;have hc3:=((e8.trans e9).trans e10).trans e11;have ho:OwnS M.A w z13 [obE b5 Pg.twoO (.slice k4 x4 y4) (.slice l4 u4 v4),obE b4 (Pg.oneO Pg.conS) (.slice k3 x3 y3) (.slice l3 u3 v3),obE b3 Pg.treeO (.slice k2 x2 y2) (.slice l2 u2 v2),obE b2 Pg.rootO (.slice a n c) (.slice a2 n2 c2),obE b1 (Pg.refO 2) nilS nilS,dcE b0 Dk.dc0 nilS nilS nilS,.mem Q11]:=ho
  replace h1:=h1.le ((hc1.trans hc2).trans hc3)
  replace h2:=h2.le (hc2.trans hc3)
  replace h3:=h3.le hc3
  have ho:=ho.drew;have hcum:=Q11.le_refl;have hbase:=hle.trans ((hc1.trans hc2).trans hc3);have done:∀{W:World} {PK:PKT} {P:Mem} {vb:Nat} {ics:List Value} {ta:Option Addr} {tn tc:Nat} {ta2:Option Addr} {tn2 tc2:Nat},Q11.le P→SlA P.A P.w (.slice (some ⟨vb,0,none⟩) 5 5) 8 5 ics→IVs P.A P.w ics Pg.docS.items→OV P.A P.w (obV Pg.trO (.slice ta tn tc) (.slice ta2 tn2 tc2)) Pg.trO →
    OwnS M.A w W [obE b5 Pg.twoO (.slice k4 x4 y4) (.slice l4 u4 v4),obE b4 (Pg.oneO Pg.conS) (.slice k3 x3 y3) (.slice l3 u3 v3),obE b3 Pg.treeO (.slice k2 x2 y2) (.slice l2 u2 v2),obE b2 Pg.rootO (.slice a n c) (.slice a2 n2 c2),obE b1 (Pg.refO 2) nilS nilS,dcE b0 Dk.dc0 nilS nilS nilS,.mem P] →
    HDo prog (fun _=>True) (mBuild 28 #[(0,.slice (some ⟨vb,0,none⟩) 5 5),(1,obV Pg.trO (.slice ta tn tc) (.slice ta2 tn2 tc2))]) fun t58=>DoX prog (mStore 28 (.pointer (some ⟨b0,0,none⟩)) t58) W PK fun _ w=>S_foliantlaw35_sample_1 (.pointer (some ⟨b0,0,none⟩)) w K:=by
   intro W PK P vb ics ta tn tc ta2 tn2 tc2 hp hsl hall hy ho;refine hd_pure _ (fun _=>run_mdoc (its:=Pg.docS.items)) ?_;refine dc_put 5 rfl rfl rfl ho rfl fun w9 ho=>?_;unfold S_foliantlaw35_sample_1;exact ret_dc 5 ho rfl (hK _ _ P _ 6 ho rfl (hbase.trans hp) ⟨_,_,_,_,rfl,hsl,hall,hy⟩)
  refine⟨fun W=>(obE b2 Pg.rootO (.slice a n c) (.slice a2 n2 c2)).is W∧(obE b3 Pg.treeO (.slice k2 x2 y2) (.slice l2 u2 v2)).is W∧(obE b4 (Pg.oneO Pg.conS) (.slice k3 x3 y3) (.slice l3 u3 v3)).is W∧(obE b5 Pg.twoO (.slice k4 x4 y4) (.slice l4 u4 v4)).is W,⟨ho.at_ 3 rfl,ho.at_ 2 rfl,ho.at_ 1 rfl,ho.at_ 0 rfl⟩,?_⟩;refine hd_do _ (fun W h=>run_obload h.1) (hd_pure _ (fun _=>run_mit) ?_);refine hd_do _ (fun W h=>run_obload h.2.1) (hd_pure _ (fun _=>run_mit) ?_);refine hd_do _ (fun W h=>run_obload h.2.2.1) (hd_pure _ (fun _=>run_mit) ?_);refine hd_do _ (fun W h=>run_obload h.2.2.2) (hd_pure _ (fun _=>run_mit) ?_);refine hd_pure _ (fun _=>run_mstrm) (hd_pure _ (fun _=>run_mit) ?_);constructor
  ·skip
   refine o_items5 6 ho rfl (h1.le hcum) (h2.le hcum) (h3.le hcum) (h4.le hcum) fun vb P41 w38 icsP41 hl39 hsl hall ho=>?_;have hm40:=hcum.trans hl39;refine⟨⟨ho.at_ 3 rfl,ho.at_ 2 rfl,ho.at_ 1 rfl,ho.at_ 0 rfl⟩,?_⟩;refine c_key35 Dk.rootK ho fun w42 ho=>?_;refine⟨⟨ho.at_ 3 rfl,ho.at_ 2 rfl,ho.at_ 1 rfl,ho.at_ 0 rfl⟩,?_⟩;refine c_ref35 1 ho fun w43 ho=>?_;refine⟨⟨ho.at_ 3 rfl,ho.at_ 2 rfl,ho.at_ 1 rfl,ho.at_ 0 rfl⟩,?_⟩;refine o_chn2 6 ho rfl (leaf_ov _ _ _ _ _) (leaf_ov _ _ _ _ _) fun nb P47 w44 hl45 hch ho=>?_;have hm46:=hm40.trans hl45;have hsl:=hsl.le hl45;have hall:=IVs.le hl45 hall;refine⟨⟨ho.at_ 3 rfl,ho.at_ 2 rfl,ho.at_ 1 rfl,ho.at_ 0 rfl⟩,?_⟩;refine c_dict35 trP Pg.trO trP_ok (by decide) trP_k (by decide) (by decide +kernel) 6 ho rfl hch fun P51 ta tn tc ta2 tn2 tc2 w48 hl49 hy ho=>?_;have hm50:=hm46.trans hl49;have hsl:=hsl.le hl49;have hall:=IVs.le hl49 hall;refine⟨⟨ho.at_ 3 rfl,ho.at_ 2 rfl,ho.at_ 1 rfl,ho.at_ 0 rfl⟩,?_⟩;exact done hm50 hsl hall hy ho
  ·skip
   refine c_key35 Dk.rootK ho fun w52 ho=>?_;refine⟨⟨ho.at_ 3 rfl,ho.at_ 2 rfl,ho.at_ 1 rfl,ho.at_ 0 rfl⟩,?_⟩;constructor
   ·skip
    refine o_items5 6 ho rfl (h1.le hcum) (h2.le hcum) (h3.le hcum) (h4.le hcum) fun vb P56 w53 icsP56 hl54 hsl hall ho=>?_;have hm55:=hcum.trans hl54;refine⟨⟨ho.at_ 3 rfl,ho.at_ 2 rfl,ho.at_ 1 rfl,ho.at_ 0 rfl⟩,?_⟩;refine c_ref35 1 ho fun w57 ho=>?_;refine⟨⟨ho.at_ 3 rfl,ho.at_ 2 rfl,ho.at_ 1 rfl,ho.at_ 0 rfl⟩,?_⟩;refine o_chn2 6 ho rfl (leaf_ov _ _ _ _ _) (leaf_ov _ _ _ _ _) fun nb P61 w58 hl59 hch ho=>?_;have hm60:=hm55.trans hl59;have hsl:=hsl.le hl59;have hall:=IVs.le hl59 hall;refine⟨⟨ho.at_ 3 rfl,ho.at_ 2 rfl,ho.at_ 1 rfl,ho.at_ 0 rfl⟩,?_⟩;refine c_dict35 trP Pg.trO trP_ok (by decide) trP_k (by decide) (by decide +kernel) 6 ho rfl hch fun P65 ta tn tc ta2 tn2 tc2 w62 hl63 hy ho=>?_;have hm64:=hm60.trans hl63;have hsl:=hsl.le hl63;have hall:=IVs.le hl63 hall;refine⟨⟨ho.at_ 3 rfl,ho.at_ 2 rfl,ho.at_ 1 rfl,ho.at_ 0 rfl⟩,?_⟩;exact done hm64 hsl hall hy ho
   ·skip
    refine c_ref35 1 ho fun w66 ho=>?_;refine⟨⟨ho.at_ 3 rfl,ho.at_ 2 rfl,ho.at_ 1 rfl,ho.at_ 0 rfl⟩,?_⟩;constructor
    ·skip
     refine o_items5 6 ho rfl (h1.le hcum) (h2.le hcum) (h3.le hcum) (h4.le hcum) fun vb P70 w67 icsP70 hl68 hsl hall ho=>?_;have hm69:=hcum.trans hl68;refine⟨⟨ho.at_ 3 rfl,ho.at_ 2 rfl,ho.at_ 1 rfl,ho.at_ 0 rfl⟩,?_⟩;refine o_chn2 6 ho rfl (leaf_ov _ _ _ _ _) (leaf_ov _ _ _ _ _) fun nb P74 w71 hl72 hch ho=>?_;have hm73:=hm69.trans hl72;have hsl:=hsl.le hl72;have hall:=IVs.le hl72 hall;refine⟨⟨ho.at_ 3 rfl,ho.at_ 2 rfl,ho.at_ 1 rfl,ho.at_ 0 rfl⟩,?_⟩;refine c_dict35 trP Pg.trO trP_ok (by decide) trP_k (by decide) (by decide +kernel) 6 ho rfl hch fun P78 ta tn tc ta2 tn2 tc2 w75 hl76 hy ho=>?_;have hm77:=hm73.trans hl76;have hsl:=hsl.le hl76;have hall:=IVs.le hl76 hall;refine⟨⟨ho.at_ 3 rfl,ho.at_ 2 rfl,ho.at_ 1 rfl,ho.at_ 0 rfl⟩,?_⟩;exact done hm77 hsl hall hy ho
    ·skip
     refine o_chn2 6 ho rfl (leaf_ov _ _ _ _ _) (leaf_ov _ _ _ _ _) fun nb P82 w79 hl80 hch ho=>?_;have hm81:=hcum.trans hl80;refine⟨⟨ho.at_ 3 rfl,ho.at_ 2 rfl,ho.at_ 1 rfl,ho.at_ 0 rfl⟩,?_⟩;constructor
     ·skip
      refine o_items5 6 ho rfl (h1.le hm81) (h2.le hm81) (h3.le hm81) (h4.le hm81) fun vb P86 w83 icsP86 hl84 hsl hall ho=>?_;have hm85:=hm81.trans hl84;have hch:=hch.le hl84;refine⟨⟨ho.at_ 3 rfl,ho.at_ 2 rfl,ho.at_ 1 rfl,ho.at_ 0 rfl⟩,?_⟩;refine c_dict35 trP Pg.trO trP_ok (by decide) trP_k (by decide) (by decide +kernel) 6 ho rfl hch fun P90 ta tn tc ta2 tn2 tc2 w87 hl88 hy ho=>?_;have hm89:=hm85.trans hl88;have hsl:=hsl.le hl88;have hall:=IVs.le hl88 hall;refine⟨⟨ho.at_ 3 rfl,ho.at_ 2 rfl,ho.at_ 1 rfl,ho.at_ 0 rfl⟩,?_⟩;exact done hm89 hsl hall hy ho
     ·skip
      refine c_dict35 trP Pg.trO trP_ok (by decide) trP_k (by decide) (by decide +kernel) 6 ho rfl hch fun P94 ta tn tc ta2 tn2 tc2 w91 hl92 hy ho=>?_;have hm93:=hm81.trans hl92;refine⟨⟨ho.at_ 3 rfl,ho.at_ 2 rfl,ho.at_ 1 rfl,ho.at_ 0 rfl⟩,?_⟩;refine o_items5 6 ho rfl (h1.le hm93) (h2.le hm93) (h3.le hm93) (h4.le hm93) fun vb P98 w95 icsP98 hl96 hsl hall ho=>?_;have hm97:=hm93.trans hl96;have hy:=hy.le hl96;refine⟨⟨ho.at_ 3 rfl,ho.at_ 2 rfl,ho.at_ 1 rfl,ho.at_ 0 rfl⟩,?_⟩;exact done hm97 hsl hall hy ho
 have ho:=ho.drew;refine⟨fun W=>(obE b1 (Pg.refO 2) nilS nilS).is W,ho.at_ 0 rfl,?_⟩;refine hd_do _ (fun W h=>run_obload h) ?_;constructor
 ·skip
  refine c_key35 Dk.typeK ho fun w1 ho=>?_;refine⟨ho.at_ 0 rfl,?_⟩;constructor
  ·skip
   refine c_key35 Pg.catN ho fun w2 ho=>?_;refine⟨ho.at_ 0 rfl,?_⟩;constructor
   ·skip
    refine c_key35 Pg.pagesN ho fun w3 ho=>?_;refine⟨ho.at_ 0 rfl,?_⟩;constructor
    ·skip
     refine o_chn4 2 ho rfl (leaf_ov _ _ _ _ _) (leaf_ov _ _ _ _ _) (leaf_ov _ _ _ _ _) (leaf_ov _ _ _ _ _) fun nb N1 w4 hle1 hch ho=>?_;constructor
     ·skip
      refine c_dict35 rootP Pg.rootO rootP_ok (by decide) rootP_k (by decide) (by decide +kernel) 2 ho rfl hch fun N2 a n c a2 n2 c2 w6 hle2 hy ho=>?_;refine⟨ho.at_ 0 rfl,?_⟩;refine o_oba ho fun b2 w7 ho=>?_;refine⟨ho.at_ 1 rfl,?_⟩;refine ob_put 0 rfl rfl ho rfl fun w8 ho=>?_;exact fin (hle1.trans hle2) hy ho
     ·skip
      refine o_oba ho fun b2 w9 ho=>?_;refine⟨ho.at_ 1 rfl,?_⟩;refine c_dict35 rootP Pg.rootO rootP_ok (by decide) rootP_k (by decide) (by decide +kernel) 3 ho rfl hch fun N2 a n c a2 n2 c2 w10 hle2 hy ho=>?_;refine⟨ho.at_ 1 rfl,?_⟩;refine ob_put 0 rfl rfl ho rfl fun w11 ho=>?_;exact fin (hle1.trans hle2) hy ho
    ·skip
     refine o_oba ho fun b2 w12 ho=>?_;refine⟨ho.at_ 1 rfl,?_⟩;refine o_chn4 3 ho rfl (leaf_ov _ _ _ _ _) (leaf_ov _ _ _ _ _) (leaf_ov _ _ _ _ _) (leaf_ov _ _ _ _ _) fun nb N1 w13 hle1 hch ho=>?_;refine c_dict35 rootP Pg.rootO rootP_ok (by decide) rootP_k (by decide) (by decide +kernel) 3 ho rfl hch fun N2 a n c a2 n2 c2 w15 hle2 hy ho=>?_;refine⟨ho.at_ 1 rfl,?_⟩;refine ob_put 0 rfl rfl ho rfl fun w16 ho=>?_;exact fin (hle1.trans hle2) hy ho
   ·skip
    refine o_oba ho fun b2 w17 ho=>?_;refine⟨ho.at_ 1 rfl,?_⟩;refine c_key35 Pg.pagesN ho fun w18 ho=>?_;refine⟨ho.at_ 1 rfl,?_⟩;refine o_chn4 3 ho rfl (leaf_ov _ _ _ _ _) (leaf_ov _ _ _ _ _) (leaf_ov _ _ _ _ _) (leaf_ov _ _ _ _ _) fun nb N1 w19 hle1 hch ho=>?_;refine c_dict35 rootP Pg.rootO rootP_ok (by decide) rootP_k (by decide) (by decide +kernel) 3 ho rfl hch fun N2 a n c a2 n2 c2 w21 hle2 hy ho=>?_;refine⟨ho.at_ 1 rfl,?_⟩;refine ob_put 0 rfl rfl ho rfl fun w22 ho=>?_;exact fin (hle1.trans hle2) hy ho
  ·skip
   refine o_oba ho fun b2 w23 ho=>?_;refine⟨ho.at_ 1 rfl,?_⟩;refine c_key35 Pg.catN ho fun w24 ho=>?_;refine⟨ho.at_ 1 rfl,?_⟩;refine c_key35 Pg.pagesN ho fun w25 ho=>?_;refine⟨ho.at_ 1 rfl,?_⟩;refine o_chn4 3 ho rfl (leaf_ov _ _ _ _ _) (leaf_ov _ _ _ _ _) (leaf_ov _ _ _ _ _) (leaf_ov _ _ _ _ _) fun nb N1 w26 hle1 hch ho=>?_;refine c_dict35 rootP Pg.rootO rootP_ok (by decide) rootP_k (by decide) (by decide +kernel) 3 ho rfl hch fun N2 a n c a2 n2 c2 w28 hle2 hy ho=>?_;refine⟨ho.at_ 1 rfl,?_⟩;refine ob_put 0 rfl rfl ho rfl fun w29 ho=>?_;exact fin (hle1.trans hle2) hy ho
 ·skip
  refine o_oba ho fun b2 w30 ho=>?_;refine⟨ho.at_ 1 rfl,?_⟩;refine c_key35 Dk.typeK ho fun w31 ho=>?_;refine⟨ho.at_ 1 rfl,?_⟩;refine c_key35 Pg.catN ho fun w32 ho=>?_;refine⟨ho.at_ 1 rfl,?_⟩;refine c_key35 Pg.pagesN ho fun w33 ho=>?_;refine⟨ho.at_ 1 rfl,?_⟩;refine o_chn4 3 ho rfl (leaf_ov _ _ _ _ _) (leaf_ov _ _ _ _ _) (leaf_ov _ _ _ _ _) (leaf_ov _ _ _ _ _) fun nb N1 w34 hle1 hch ho=>?_;refine c_dict35 rootP Pg.rootO rootP_ok (by decide) rootP_k (by decide) (by decide +kernel) 3 ho rfl hch fun N2 a n c a2 n2 c2 w36 hle2 hy ho=>?_;refine⟨ho.at_ 1 rfl,?_⟩;refine ob_put 0 rfl rfl ho rfl fun w37 ho=>?_;exact fin (hle1.trans hle2) hy ho
end
section
open Eng Go.RowKit
theorem eqRc:eqT prog 43 [(0,false),(1,false),(2,false),(3,false)]:=⟨by kernel_rfl,by kernel_rfl,by kernel_rfl,by kernel_rfl⟩
theorem e_rcs {xo yo:Operand}{r:Rc}{w:World}{PK:PKT}{K:VWP}:DoX prog (mEq .eql 43 xo yo (rcV r) (rcV r)) w PK K=K (.bool true) w:=by
 refine do_eq ?_;have:=run_eql_agg (P:=prog) (w:=w) (xo:=xo) (yo:=yo) eqRc (xs:=(rcC r).toArray) (ys:=(rcC r).toArray) rfl;rw[show ([(0,false),(1,false),(2,false),(3,false)]:List (Nat×Bool)).all (fun p=>cellEq (rcC r).toArray[p.1]? (rcC r).toArray[p.1]?)=true by simp[rcC,cellEq]] at this;exact this
namespace Pg
theorem docS_ok:Dk.Ok docS:=by
 refine⟨by decide,fun i hi=>?_,by decide +kernel⟩;have:i∈[(⟨1,0,rootO⟩:It),⟨2,0,treeO⟩,⟨3,0,oneO conS⟩,⟨4,0,twoO⟩,⟨5,0,strmO [113]⟩]:=hi;simp only[List.mem_cons,List.not_mem_nil,or_false] at this;rcases this with rfl|rfl|rfl|rfl|rfl<;>decide +kernel
theorem docS_leaves:leaves docS=([⟨3,[oneO conS,treeO]⟩,⟨4,[twoO,treeO]⟩],0):=leaves_docT docS_check
theorem docS_get0:get docS 0=(pg1,0):=get1 docS_check
theorem docS_get1:get docS 1=(pg2,0):=get2 docS_check
theorem docS_get2:(get docS 2).2=8:=by
 unfold get at_;rw[docS_leaves];rfl
theorem docS_place4:place docS 4=(1,true):=by
 unfold place;rw[docS_leaves];rfl
theorem docS_place2:place docS 2=(0,false):=by
 unfold place;rw[docS_leaves];rfl
theorem docS_at0:(at_ docS 0).1=⟨3,[oneO conS,treeO]⟩:=by
 unfold at_;rw[docS_leaves];rfl
theorem docS_con:val docS (oneO conS) conK=conS:=by kernel_rfl
theorem docS_streams:streams docS conS=[strmO [113],strmO [113]]:=by kernel_rfl
theorem docS_rect:rect docS (intO 1)=(rc0,3):=rfl
theorem dc0_list:(list Dk.dc0).2=10:=by kernel_rfl
theorem dc0_ok:Dk.Ok Dk.dc0:=⟨by decide,fun i hi=>(by cases hi),by decide +kernel⟩
end Pg
end
section
open Eng Go.RowKit
theorem run_rcExt0 {W:World}{x:Rc×Int}:(mExt (rectV x) 0).run prog W=.ok (.value (rcV x.1)) W:=rfl
theorem run_rcExt1 {W:World}{x:Rc×Int}:(mExt (rectV x) 1).run prog W=.ok (.value (.int .i64 x.2)) W:=rfl
theorem lives35_ret (M:Mem)(w:World)(hM:M.has w):RetM prog 9 #[] M w (fun r N=>r=.bool true):=by
 refine retM_of hM fun K hK=>S_foliantlaw35_lives_ok ?_;unfold S_foliantlaw35_lives;have hd:=Pg.docS_ok;refine c_mem (OwnS.memS hM) 0 rfl (lsample_ret M w hM) ?_;rintro y N1 w1 g1 ⟨vi,tk,tc,dcs,rfl,hda⟩ ho;refine o_dca ho fun b1 w2 ho=>?_;refine dc_put 0 hda.items.one hda.trailer.oneK hda.trailer.oneC ho rfl fun w3 ho=>?_;have ho:OwnS M.A w w3 [dcE b1 Pg.docS vi tk tc,.mem N1]:=ho;rw[dc_v ho 0 rfl];refine c_mem ho 1 rfl (pcount_ret Pg.docS _ N1 w3 hd (ho.hasM 1 rfl) hda.dv) ?_;rintro _ N2 w4 g2 rfl ho;have hda:=hda.le g2;rw[Pg.docS_leaves];simp only[ex];rw[dc_v ho 0 rfl];refine c_mem ho 1 rfl (pget_ret Pg.docS 0 _ N2 w4 hd (ho.hasM 1 rfl) hda.dv) ?_;rintro _ N3 w5 g3 ⟨y0,rfl,hp0⟩ ho;have hda:=hda.le g3;rw[Pg.docS_get0] at hp0 ⊢;simp only[errV,ex];obtain⟨k0,c0,rfl,hp0⟩:=hp0;refine o_pga ho fun b4 w6 ho=>?_;refine pg_put 0 hp0.oneK hp0.oneC ho rfl fun w7 ho=>?_;rw[dc_v ho 1 rfl];refine c_mem ho 2 rfl (pget_ret Pg.docS 1 _ N3 w7 hd (ho.hasM 2 rfl) hda.dv) ?_;rintro _ N4 w8 g4 ⟨y1,rfl,hp1⟩ ho;have hda:=hda.le g4;rw[Pg.docS_get1] at hp1 ⊢;simp only[errV,ex];obtain⟨k1,c1,rfl,hp1⟩:=hp1;refine o_pga ho fun b6 w9 ho=>?_;refine pg_put 0 hp1.oneK hp1.oneC ho rfl fun w10 ho=>?_;rw[dc_v ho 2 rfl];refine c_mem ho 3 rfl (pget_ret Pg.docS 2 _ N4 w10 hd (ho.hasM 3 rfl) hda.dv) ?_;rintro _ N5 w11 g5 ⟨y2,rfl,hp2⟩ ho;have hda:=hda.le g5;rw[Pg.docS_get2];simp only[errV,ex];obtain⟨k2,c2,rfl,hp2⟩:=hp2;refine o_pga ho fun b8 w12 ho=>?_;refine pg_put 0 hp2.oneK hp2.oneC ho rfl fun w13 ho=>?_;have ho:=ho.tail;have ho:OwnS M.A w w13 [pgE b6 Pg.pg2 k1 c1,pgE b4 Pg.pg1 k0 c0,dcE b1 Pg.docS vi tk tc,.mem N5]:=ho;rw[dc_v ho 2 rfl];refine c_mem ho 3 rfl (pplace_ret Pg.docS 4 _ N5 w13 hd (ho.hasM 3 rfl) hda.dv) ?_;rintro _ N6 w14 g6 rfl ho;have hda:=hda.le g6;rw[Pg.docS_place4];simp only[ex];rw[dc_v ho 2 rfl];refine c_mem ho 3 rfl (pplace_ret Pg.docS 2 _ N6 w14 hd (ho.hasM 3 rfl) hda.dv) ?_;rintro _ N7 w15 g7 rfl ho;have hda:=hda.le g7;rw[Pg.docS_place2];simp only[ex];rw[dc_v ho 2 rfl];refine c_mem ho 3 rfl (pcontent_ret Pg.docS 0 _ N7 w15 hd (by rw[Pg.docS_get0]) ⟨3,[Pg.oneO Pg.conS,Pg.treeO]⟩ Pg.docS_at0 Pg.conS (Pg.oneO Pg.conS) [Pg.treeO] rfl Pg.docS_con (by decide)
  (by rw[Pg.docS_streams];decide) (by rw[Pg.docS_streams];decide) (by rw[Pg.docS_streams];decide) (ho.hasM 3 rfl) hda.dv) ?_
 rintro _ N8 w16 g8 rfl ho;have hda:=hda.le g8;rw[Pg.docS_streams];simp only[ex];have hle8:M.le N8:=g1.trans (g2.trans (g3.trans (g4.trans (g5.trans (g6.trans (g7.trans g8))))));have ho:OwnS M.A w w16 [pgE b6 Pg.pg2 k1 c1,pgE b4 Pg.pg1 k0 c0,dcE b1 Pg.docS vi tk tc,.mem N8]:=ho
 -- the tail
 have fin:∀{W:World} {N:Mem} {L:List Ent},N8.le N→OwnS M.A w W ([pgE b6 Pg.pg2 k1 c1,pgE b4 Pg.pg1 k0 c0,dcE b1 Pg.docS vi tk tc,.mem N]++L) →
   S_foliantlaw35_lives_0 (.int .i64 2) (.int .i64 0) (.pointer (some ⟨b4,0,none⟩)) (.int .i64 0) (.pointer (some ⟨b6,0,none⟩)) (.int .i64 0) (.int .i64 8) (.int .i64 1) (.bool true) (.bool false) (.string ⟨#[113,10,113]⟩) (.int .i64 0) (.int .i64 3) W K:=by
  intro W N L hle ho;unfold S_foliantlaw35_lives_0;rw[m_dc0];refine c_mem ho 3 rfl (plist_ret Dk.dc0 _ N W Pg.dc0_ok (ho.hasM 3 rfl) (dc0_at N).dv) ?_;rintro _ N9 w17 g9 ⟨v9,cs9,rfl,-,-⟩ ho;have ho:OwnS M.A w w17 ([pgE b6 Pg.pg2 k1 c1,pgE b4 Pg.pg1 k0 c0,dcE b1 Pg.docS vi tk tc,.mem N9]++L):=ho;rw[Pg.dc0_list];have es:∀{xo yo:Operand} {PK:PKT} {K:VWP},DoX prog (mEq .eql 9 xo yo (.string ⟨#[113,10,113]⟩) (.string ⟨#[113,10,113]⟩)) w17 PK K=K (.bool true) w17:=e_str (a:=[113,10,113]) (b:=[113,10,113]);simp only[errV,ex,rs,decide_true];rw[fa_pg0,pg_num ho 1 rfl];simp only[Pg.pg1,rs,decide_true];rw[fa_pg1,pg_media ho 1 rfl,m_rc];simp only[Pg.pg1,rs,e_rcs];rw[fa_pg2,pg_crop ho 1 rfl,fa_pg1,pg_media ho 1 rfl];simp only[Pg.pg1,rs,e_rcs,decide_true];rw[fa_pg2,pg_crop ho 0 rfl,m_rc];simp only[Pg.pg2,rs,e_rcs];rw[fa_pg3,pg_rot ho 0 rfl];simp only[Pg.pg2,rs,decide_true];rw[fa_pg4,fa_o0];rw[show DoX prog (mLoad 3 (.pointer (some ⟨b6,0+10,none⟩))) w17 (Eng.pk K)=_ from funext fun _=>l_cell nInt5 (ho.cell 0 rfl 10 rfl)];simp only[show decide (Pg.pg2.res.k=7)=true by decide,rs,decide_true,es,Bool.not_false];exact hK _ _ N9 _ 3 ho rfl (hle8.trans (hle.trans g9)) rfl
 have rt:∀{W:World} {N:Mem} {L:List Ent} {F:VWP} {PK:PKT} {xv:Value} (_:N8.le N) (_:OV N.A N.w xv (Pg.intO 1)) (i:Nat) (_:OwnS M.A w W L) (_:L[i]?=some (.mem N))
   (_:∀W N',N8.le N'→OwnS M.A w W (L.set i (.mem N'))→F (rectV (Pg.rc0,3)) W),CallX prog 18 #[dcV Pg.docS vi tk tc,xv] W PK F:=by
  intro W N L F PK xv hle hx i ho hi hF;refine c_mem ho i hi (prect_ret Pg.docS (Pg.intO 1) _ xv N W hd (by decide) (ho.hasM i hi) (hda.le hle).dv hx) ?_;rintro _ N' w' hle' rfl ho;rw[Pg.docS_rect];exact hF w' N' (hle.trans hle') ho
 have ho:=ho.drew;refine⟨fun W=>(dcE b1 Pg.docS vi tk tc).is W,ho.at_ 2 rfl,?_⟩;refine hd_do _ (fun W h=>run_dcv h) ?_
 -- the box and its first number
 have bx:∀{W:World} {N:Mem} {L:List Ent} {F:VWP} {PK:PKT} (_:N8.le N) (i:Nat) (_:OwnS M.A w W L) (_:L[i]?=some (.mem N))
   (_:∀W N' a n c xv p,N.le N'→OwnS M.A w W (L.set i (.mem N'))→OV N'.A N'.w xv (Pg.intO 1)→(∀W,(mIA 24 (.slice a n c) (.int .i64 0)).run prog W=.ok (.value (.pointer (some p))) W)→(∀W,N'.has W→(mLoad 26 (.pointer (some p))).run prog W=.ok (.value xv) W)→F (obV (Pg.boxI 1 2 3 4) nilS (.slice a n c)) W),
   CallX prog 34 #[.int .i64 1,.int .i64 2,.int .i64 3,.int .i64 4] W PK F:=by
  intro W N L F PK hle i ho hi hF;refine c_mem ho i hi (lbox_ret 1 2 3 4 N W (ho.hasM i hi)) ?_;rintro _ N' w1 hle' ⟨a,n,c,rfl,hc⟩ ho;obtain⟨xv,p,hx,r1,r2⟩:=chn_at hc (i:=0) (by decide);exact hF w1 N' a n c xv p hle' ho hx r1 r2
 have fld:∀{W:World} {a:Option Addr} {n c:Nat},(mFld 26 (obV (Pg.boxI 1 2 3 4) nilS (.slice a n c)) 5).run prog W=.ok (.value (.slice a n c)) W:=by intros;kernel_rfl
 constructor
 ·refine bx N8.le_refl 3 ho rfl fun W2 N2 a n c xv p hle2 ho hx r1 r2=>?_;have ho:OwnS M.A w W2 [pgE b6 Pg.pg2 k1 c1,pgE b4 Pg.pg1 k0 c0,dcE b1 Pg.docS vi tk tc,.mem N2]:=ho;refine⟨ho.at_ 2 rfl,hd_pure _ (fun _=>fld) (hd_pure _ r1 ?_)⟩;constructor
  ·refine do_eq (r2 W2 (ho.hasM 3 rfl)) |>.mpr ⟨ho.at_ 2 rfl,?_⟩;constructor
   ·refine rt hle2 hx 3 ho rfl fun W3 N3 hle3 ho=>?_;have ho:OwnS M.A w W3 [pgE b6 Pg.pg2 k1 c1,pgE b4 Pg.pg1 k0 c0,dcE b1 Pg.docS vi tk tc,.mem N3]:=ho;refine hd_pure _ (fun _=>run_rcExt0) (hd_pure _ (fun _=>run_rcExt1) ?_);refine o_rca ho fun b5 w5 ho=>⟨ho.at_ 3 rfl,?_⟩;refine rc_put 0 ho rfl fun w6 ho=>?_;exact fin (L:=[]) hle3 ho.tail
   ·refine o_rca ho fun b5 w5 ho=>⟨ho.at_ 3 rfl,?_⟩;refine rt hle2 hx 4 ho rfl fun W3 N3 hle3 ho=>?_;refine hd_pure _ (fun _=>run_rcExt0) (hd_pure _ (fun _=>run_rcExt1) ?_);refine rc_put 0 ho rfl fun w6 ho=>?_;exact fin (L:=[]) hle3 ho.tail
  ·refine o_rca ho fun b5 w5 ho=>⟨ho.at_ 3 rfl,?_⟩;refine do_eq (r2 w5 (ho.hasM 4 rfl)) |>.mpr ⟨ho.at_ 3 rfl,?_⟩;refine rt hle2 hx 4 ho rfl fun W3 N3 hle3 ho=>?_;refine hd_pure _ (fun _=>run_rcExt0) (hd_pure _ (fun _=>run_rcExt1) ?_);refine rc_put 0 ho rfl fun w6 ho=>?_;exact fin (L:=[]) hle3 ho.tail
 ·refine o_rca ho fun b5 w5 ho=>⟨ho.at_ 3 rfl,?_⟩;refine bx N8.le_refl 4 ho rfl fun W2 N2 a n c xv p hle2 ho hx r1 r2=>?_;have ho:OwnS M.A w W2 [rcE b5 Pg.rc0,pgE b6 Pg.pg2 k1 c1,pgE b4 Pg.pg1 k0 c0,dcE b1 Pg.docS vi tk tc,.mem N2]:=ho;refine⟨ho.at_ 3 rfl,hd_pure _ (fun _=>fld) (hd_pure _ r1 ?_)⟩;refine do_eq (r2 W2 (ho.hasM 4 rfl)) |>.mpr ⟨ho.at_ 3 rfl,?_⟩;refine rt hle2 hx 4 ho rfl fun W3 N3 hle3 ho=>?_;refine hd_pure _ (fun _=>run_rcExt0) (hd_pure _ (fun _=>run_rcExt1) ?_);refine rc_put 0 ho rfl fun w6 ho=>?_;exact fin (L:=[]) hle3 ho.tail
end
end Go.Proofs.YtoobidofdpdkbaaGreatDoor


namespace Go.Proofs.YtoobidofdpdkbaaGreatDoor
section
open Eng
def S_foliantref05_Drop (t0 t1:Value)(w:World)(K:Ending→World→Prop):Prop:=
 DoX prog (mBox 26 t0) w (pk K) fun t2 w=>
 DoX prog (mAlloc 26) w (pk K) fun t4 w=>
 DoX prog (mFA 26 t2 0) w (pk K) fun t5 w=>
 DoX prog (mLoad 3 t5) w (pk K) fun t6 w=>
 DoX prog (mEq .neq 3 (.tmp 6) (.const (.int .i64 7)) t6 (.int .i64 7)) w (pk K) fun t7 w=>
 GDo t7 true (fun E=>DoX prog (mFA 26 t2 0) w (pk K) E) w fun t9 w=>
 GDo t7 true (fun E=>DoX prog (mLoad 3 t9) w (pk K) E) w fun t10 w=>
 GDo t7 true (fun E=>DoX prog (mEq .neq 3 (.tmp 10) (.const (.int .i64 9)) t10 (.int .i64 9)) w (pk K) E) w fun t11 w=>
 DoX prog (mPick t7 t11 (.bool false)) w (pk K) fun t12 w=>
 GDo t12 false (fun E=>DoX prog (mLoad 26 t2) w (pk K) E) w fun t14 w=>
 GDo t12 false (fun E=>CallX prog 45 #[t14] w (pk K) E) w fun t15 w=>
 GDo t12 false (fun E=>DoX prog (mEq .neq 32 (.tmp 15) (.const (.int .i64 0)) t15 (.int .i64 0)) w (pk K) E) w fun t16 w=>
 DoX prog (mPick t12 (.bool true) t16) w (pk K) fun t17 w=>
 IfX t17 (DoX prog (mLoad 26 t2) w (pk K) fun t18 w=>
 DoX prog (mStore 26 t4 t18) w (pk K) fun _ w=>
 RetX prog [.cell t4 26] w K) (DoX prog (mLoad 26 t2) w (pk K) fun t19 w=>
 CallX prog 46 #[t19,t1] w (pk K) fun t21 w=>
 DoX prog (mStore 26 t4 t21) w (pk K) fun _ w=>
 RetX prog [.cell t4 26] w K)
theorem S_foliantref05_Drop_eq (t0 t1:Value)(w:World)(K:Ending→World→Prop):wpX prog 22 [] [] none (bodyOf Tryz.f55) (topQ prog [.cell 4 26] K) (startX [t0,t1]) [] w=S_foliantref05_Drop t0 t1 w K:=by kernel_rfl
theorem S_foliantref05_Drop_ok {t0 t1:Value}{w:World}{K:Ending→World→Prop}(h:S_foliantref05_Drop t0 t1 w K):Calls prog 55 #[t0,t1] w K:=
 calls_of_wpX Tryz.func55 rfl rfl rfl rfl (Eq.mpr (S_foliantref05_Drop_eq t0 t1 w K) h)
end
section
open Eng
def S_foliantref19_Free_0 (t5:Value)(w:World)(K:Ending→World→Prop):Prop:=
 DoX prog (mBin .gtr 3 t5 (.int .i64 8191)) w (pk K) fun t26 w=>
 IfX t26 (K (.returned (.tuple #[(.int .i64 0),(.int .i64 30)])) w) (K (.returned (.tuple #[t5,(.int .i64 0)])) w)
def S_foliantref19_Free (t0:Value)(w:World)(K:Ending→World→Prop):Prop:=
 DoX prog (mBox 28 t0) w (pk K) fun t1 w=>
 DoX prog (mLoad 28 t1) w (pk K) fun t6 w=>
 CallX prog 49 #[t6] w (pk K) fun t7 w=>
 DoX prog (mEq .neq 32 (.tmp 8) (.const (.int .i64 0)) t7 (.int .i64 0)) w (pk K) fun t9 w=>
 IfX t9 (K (.returned (.tuple #[(.int .i64 0),t7])) w) (JoinX (fun J1=>
 DoX prog (mFA 28 t1 0) w (pk K) fun t11 w=>
 DoX prog (mLoad 22 t11) w (pk K) fun t12 w=>
 DoX prog (mB .len #[22] 3 #[false] #[t12]) w (pk K) fun t13 w=>
 DoX prog (mBin .gtr 3 t13 (.int .i64 0)) w (pk K) fun t14 w=>
 IfX t14 (DoX prog (mFA 28 t1 0) w (pk K) fun t15 w=>
 DoX prog (mLoad 22 t15) w (pk K) fun t16 w=>
 DoX prog (mFA 28 t1 0) w (pk K) fun t17 w=>
 DoX prog (mLoad 22 t17) w (pk K) fun t18 w=>
 DoX prog (mB .len #[22] 3 #[false] #[t18]) w (pk K) fun t19 w=>
 DoX prog (mBin .sub 3 t19 (.int .i64 1)) w (pk K) fun t20 w=>
 DoX prog (mIA 22 t16 t20) w (pk K) fun t21 w=>
 DoX prog (mFA 53 t21 0) w (pk K) fun t22 w=>
 DoX prog (mLoad 3 t22) w (pk K) fun t23 w=>
 DoX prog (mBin .add 3 t23 (.int .i64 1)) w (pk K) fun t24 w=>
 J1 [t24] w) (J1 [(.int .i64 1)] w)) (fun vs1 w=>∀_:Sg,S_foliantref19_Free_0 (vs1.getD 0 undef) w K))
theorem S_foliantref19_Free_eq (t0:Value)(w:World)(K:Ending→World→Prop):wpX prog 28 [(7,[5])] [] none (bodyOf Tryz.f57) (topQ prog [.tmp 2,.tmp 3] K) (startX [t0]) [] w=S_foliantref19_Free t0 w K:=by kernel_rfl
theorem S_foliantref19_Free_ok {t0:Value}{w:World}{K:Ending→World→Prop}(h:S_foliantref19_Free t0 w K):Calls prog 57 #[t0] w K:=
 calls_of_wpX Tryz.func57 rfl rfl rfl rfl (Eq.mpr (S_foliantref19_Free_eq t0 w K) h)
def S_foliantref19_Add (t0 t1:Value)(w:World)(K:Ending→World→Prop):Prop:=
 DoX prog (mBox 28 t0) w (pk K) fun t2 w=>
 DoX prog (mBox 26 t1) w (pk K) fun t3 w=>
 DoX prog (mAlloc 28) w (pk K) fun t4 w=>
 DoX prog (mLoad 28 t2) w (pk K) fun t12 w=>
 CallX prog 57 #[t12] w (pk K) fun t13 w=>
 DoX prog (mExt t13 0) w (pk K) fun t14 w=>
 DoX prog (mExt t13 1) w (pk K) fun t15 w=>
 DoX prog (mEq .neq 32 (.tmp 16) (.const (.int .i64 0)) t15 (.int .i64 0)) w (pk K) fun t17 w=>
 IfX t17 (DoX prog (mBuild 28 #[]) w (pk K) fun t18 w=>
 DoX prog (mStore 28 t4 t18) w (pk K) fun _ w=>
 RetX prog [.cell t4 28,.val (.int .i64 0),.val t15] w K) (DoX prog (mLoad 28 t2) w (pk K) fun t21 w=>
 DoX prog (mLoad 26 t3) w (pk K) fun t23 w=>
 DoX prog (mBuild 53 #[(0,t14),(2,t23)]) w (pk K) fun t24 w=>
 CallX prog 27 #[t21,t24] w (pk K) fun t25 w=>
 DoX prog (mExt t25 0) w (pk K) fun t26 w=>
 DoX prog (mExt t25 1) w (pk K) fun t27 w=>
 DoX prog (mAlloc 28) w (pk K) fun t9 w=>
 DoX prog (mStore 28 t9 t26) w (pk K) fun _ w=>
 DoX prog (mEq .neq 32 (.tmp 28) (.const (.int .i64 0)) t27 (.int .i64 0)) w (pk K) fun t29 w=>
 IfX t29 (DoX prog (mBuild 28 #[]) w (pk K) fun t30 w=>
 DoX prog (mStore 28 t4 t30) w (pk K) fun _ w=>
 RetX prog [.cell t4 28,.val (.int .i64 0),.val t27] w K) (DoX prog (mLoad 28 t9) w (pk K) fun t32 w=>
 DoX prog (mStore 28 t4 t32) w (pk K) fun _ w=>
 RetX prog [.cell t4 28,.val t14,.val (.int .i64 0)] w K))
theorem S_foliantref19_Add_eq (t0 t1:Value)(w:World)(K:Ending→World→Prop):wpX prog 34 [] [] none (bodyOf Tryz.f30) (topQ prog [.cell 4 28,.tmp 5,.tmp 6] K) (startX [t0,t1]) [] w=S_foliantref19_Add t0 t1 w K:=by kernel_rfl
theorem S_foliantref19_Add_ok {t0 t1:Value}{w:World}{K:Ending→World→Prop}(h:S_foliantref19_Add t0 t1 w K):Calls prog 30 #[t0,t1] w K:=
 calls_of_wpX Tryz.func30 rfl rfl rfl rfl (Eq.mpr (S_foliantref19_Add_eq t0 t1 w K) h)
def S_foliantref16_Plain (t0 t1:Value)(w:World)(K:Ending→World→Prop):Prop:=
 DoX prog (mBox 26 t0) w (pk K) fun t2 w=>
 DoX prog (mAlloc 26) w (pk K) fun t4 w=>
 DoX prog (mFA 26 t2 0) w (pk K) fun t8 w=>
 DoX prog (mLoad 3 t8) w (pk K) fun t9 w=>
 DoX prog (mEq .neq 3 (.tmp 9) (.const (.int .i64 9)) t9 (.int .i64 9)) w (pk K) fun t10 w=>
 GDo t10 true (fun E=>DoX prog (mFA 26 t2 0) w (pk K) E) w fun t12 w=>
 GDo t10 true (fun E=>DoX prog (mLoad 3 t12) w (pk K) E) w fun t13 w=>
 GDo t10 true (fun E=>DoX prog (mEq .neq 3 (.tmp 13) (.const (.int .i64 7)) t13 (.int .i64 7)) w (pk K) E) w fun t14 w=>
 DoX prog (mPick t10 t14 (.bool false)) w (pk K) fun t15 w=>
 IfX t15 (DoX prog (mBuild 26 #[]) w (pk K) fun t16 w=>
 DoX prog (mStore 26 t4 t16) w (pk K) fun _ w=>
 RetX prog [.cell t4 26,.val (.int .i64 10)] w K) (DoX prog (mLoad 26 t2) w (pk K) fun t17 w=>
 DoX prog (mAlloc 26) w (pk K) fun t6 w=>
 DoX prog (mStore 26 t6 t17) w (pk K) fun _ w=>
 DoX prog (mFA 26 t6 0) w (pk K) fun t18 w=>
 DoX prog (mStore 3 t18 (.int .i64 7)) w (pk K) fun _ w=>
 DoX prog (mFA 26 t6 3) w (pk K) fun t19 w=>
 DoX prog (mStore 9 t19 (.string ⟨#[]⟩)) w (pk K) fun _ w=>
 DoX prog (mLoad 26 t6) w (pk K) fun t20 w=>
 CallX prog 45 #[t20] w (pk K) fun t21 w=>
 DoX prog (mEq .neq 32 (.tmp 22) (.const (.int .i64 0)) t21 (.int .i64 0)) w (pk K) fun t23 w=>
 IfX t23 (DoX prog (mBuild 26 #[]) w (pk K) fun t24 w=>
 DoX prog (mStore 26 t4 t24) w (pk K) fun _ w=>
 RetX prog [.cell t4 26,.val t21] w K) (DoX prog (mLoad 26 t6) w (pk K) fun t26 w=>
 CallX prog 55 #[t26,(.string ⟨#[70,105,108,116,101,114]⟩)] w (pk K) fun t27 w=>
 CallX prog 55 #[t27,(.string ⟨#[68,101,99,111,100,101,80,97,114,109,115]⟩)] w (pk K) fun t28 w=>
 DoX prog (mStore 26 t6 t28) w (pk K) fun _ w=>
 DoX prog (mLoad 26 t6) w (pk K) fun t29 w=>
 CallX prog 56 #[t29,t1] w (pk K) fun t31 w=>
 DoX prog (mExt t31 0) w (pk K) fun t32 w=>
 DoX prog (mExt t31 1) w (pk K) fun t33 w=>
 DoX prog (mStore 26 t4 t32) w (pk K) fun _ w=>
 RetX prog [.cell t4 26,.val t33] w K))
theorem S_foliantref16_Plain_eq (t0 t1:Value)(w:World)(K:Ending→World→Prop):wpX prog 34 [] [] none (bodyOf Tryz.f29) (topQ prog [.cell 4 26,.tmp 5] K) (startX [t0,t1]) [] w=S_foliantref16_Plain t0 t1 w K:=by kernel_rfl
theorem S_foliantref16_Plain_ok {t0 t1:Value}{w:World}{K:Ending→World→Prop}(h:S_foliantref16_Plain t0 t1 w K):Calls prog 29 #[t0,t1] w K:=
 calls_of_wpX Tryz.func29 rfl rfl rfl rfl (Eq.mpr (S_foliantref16_Plain_eq t0 t1 w K) h)
end
section
open Eng Go.RowKit
theorem rdrop35_ret (o:Ob)(v:Value)(key:List UInt8)(M:Mem)(w:World)(h7:o.k=7)(hc:Vl.check 1 o=0)(hlen:o.keys.length=o.kids.length)(hw:o.wt≤1000000000)(hM:M.has w)(hv:OV M.A M.w v o) :
  RetM prog 55 #[v,.string ⟨key.toArray⟩] M w (fun r N=>OV N.A N.w r (Vl.without o key)):=by
 obtain⟨vk,vc,cs,rfl,ha⟩:=hv.open;refine retM_of hM fun K hK=>S_foliantref05_Drop_ok ?_;unfold S_foliantref05_Drop;refine o_obb o ha.keys.one ha.kids.one (OwnS.memS hM) fun b2 w1 ho=>?_;refine o_oba ho fun b4 w2 ho=>?_;simp only[rs,fa_o0,ob_k ho 1 rfl,h7,show decide ((7:Int)≠7)=false by decide,g_un,ob_v ho 1 rfl];refine c_below ho (R:=fun v=>v=.int .i64 (Vl.check 1 o)) (rCheck05_ret o _ w2 (OV.inw (ho.hasM 2 rfl) hv) (by omega)) ?_;rintro _ w3 rfl ho;simp only[rs,hc,n_err,show decide ((0:Int)≠0)=false by decide,g_un,i_f,ob_v ho 1 rfl];refine c_mem ho 2 rfl (rwithout_ret o _ key M w3 (by omega) (ho.hasM 2 rfl) hv hlen) fun y N w4 hle hy ho=>?_;obtain⟨yk,yc,ycs,rfl,hya⟩:=hy.open;refine ob_put 0 hya.keys.one hya.kids.one ho rfl fun w5 ho=>?_;exact ret_v1 (rv_cell (ho.agg 0 rfl aggOb)) (hK _ _ N _ 2 ho rfl hle hya.ov)
theorem m_strmK {w:World}{PK:PKT}{K:VWP}{s:List UInt8}(o:Ob){vk vc:Value}(hk:vk.oneCell'=true)(hc:vc.oneCell'=true):DoX prog (mBuild 26 #[(0,.int .i64 9),(3,.string ⟨s.toArray⟩),(4,vk),(5,vc)]) w PK K=K (obV (.mk 9 0 0 s o.keys o.kids) vk vc) w:=by
 cases vk<;>first|(cases hk;done)|skip
 all_goals cases vc<;>first|(cases hc;done)|exact do_eq (by kernel_rfl)
theorem dict0_wt:Pg.dict0.wt=6:=by decide
theorem dict0_check:Vl.check 1 Pg.dict0=0:=by decide +kernel
theorem Pg.strm_right {s:List UInt8}(h:s.length≤1048576):Vl.right (Pg.strmO s)=(Pg.strmO s,0):=by
 unfold Vl.right;rw[if_neg (by simp[Pg.strm_check h])]
theorem rstream35_ret (s:List UInt8)(v:Value)(M:Mem)(w:World)(hs:s.length≤1048576)(hM:M.has w)(hv:OV M.A M.w v Pg.dict0) :
  RetM prog 56 #[v,.string ⟨s.toArray⟩] M w (fun r N=>∃v',r=errV v' 0∧OV N.A N.w v' (Pg.strmO s)):=by
 obtain⟨vk,vc,cs,rfl,ha⟩:=hv.open;refine retM_of hM fun K hK=>S_foliantref05_Stream_ok ?_;unfold S_foliantref05_Stream;refine o_obb Pg.dict0 ha.keys.one ha.kids.one (OwnS.memS hM) fun b2 w1 ho=>?_;refine o_oba ho fun b4 w2 ho=>?_;rw[fa_o0,ob_k ho 1 rfl];simp only[rs,show Pg.dict0.k=7 from rfl,show decide ((7:Int)≠7)=false by decide,i_f];rw[ob_v ho 1 rfl];refine c_below ho (R:=fun v=>v=.int .i64 (Vl.check 1 Pg.dict0)) (rCheck05_ret Pg.dict0 _ w2 (OV.inw (ho.hasM 2 rfl) hv) (by rw[dict0_wt];omega)) ?_;rintro _ w3 rfl ho;simp only[dict0_check,n_err,show decide ((0:Int)≠0)=false by decide,i_f];rw[ob_v ho 1 rfl];refine c_mem ho 2 rfl (rwithout_ret Pg.dict0 _ Vl.lenK M w3 (by rw[dict0_wt];omega) (ho.hasM 2 rfl) hv rfl) fun y N w4 hle hy ho=>?_;rw[show Vl.without Pg.dict0 Vl.lenK=Pg.dict0 by kernel_rfl] at hy;obtain⟨yk,yc,ycs,rfl,hya⟩:=hy.open;refine o_oba ho fun b7 w5 ho=>?_;refine ob_put 0 hya.keys.one hya.kids.one ho rfl fun w6 ho=>?_;rw[fa_o4,ob_keys ho 0 rfl,fa_o5,ob_kids ho 0 rfl,m_strmK Pg.dict0 hya.keys.one hya.kids.one];have hsv:OV N.A N.w (obV (Pg.strmO s) yk yc) (Pg.strmO s):=ObAt.ov (o:=Pg.strmO s) (vk:=yk) (vc:=yc) (cs:=ycs) ⟨hya.keys,hya.kids,hya.all⟩;refine c_mem ho 3 rfl (rright_ret (Pg.strmO s) _ N w6 (by rw[Vl.wt_eq];simp[Pg.strmO,Ob.s,Ob.keys,Ob.kids,Ob.wts,Pl.tot];omega) (ho.hasM 3 rfl) hsv) ?_;rintro _ N2 w9 hle2 ⟨t,rfl,ht⟩ ho;rw[Pg.strm_right hs] at ht ⊢;obtain⟨tk,tc,tcs,rfl,hta⟩:=ht.open;simp only[errV,ex];refine ob_put 1 hta.keys.one hta.kids.one ho rfl fun w10 ho=>?_;exact ret_ob2 1 ho rfl (hK _ _ N2 _ 3 ho rfl (hle.trans hle2) ⟨_,rfl,hta.ov⟩)
theorem rplain35_ret (s:List UInt8)(M:Mem)(w:World)(hs:s.length≤1048576)(hM:M.has w) :
  RetM prog 29 #[obV Pg.dict0 nilS nilS,.string ⟨s.toArray⟩] M w (fun r N=>∃v',r=errV v' 0∧OV N.A N.w v' (Pg.strmO s)):=by
 have hv:=Pg.dict0_ov M;refine retM_of hM fun K hK=>S_foliantref16_Plain_ok ?_;unfold S_foliantref16_Plain;refine o_obb Pg.dict0 rfl rfl (OwnS.memS hM) fun b2 w1 ho=>?_;refine o_oba ho fun b4 w2 ho=>?_;simp only[rs,fa_o0,ob_k ho 1 rfl,show Pg.dict0.k=7 from rfl,show decide ((7:Int)≠9)=true by decide,show decide ((7:Int)≠7)=false by decide,ob_v ho 1 rfl];refine o_oba ho fun b6 w3 ho=>?_;refine ob_put 0 rfl rfl ho rfl fun w4 ho=>?_
 try rw[fa_o0]
 refine o_store 0 ho rfl (by kernel_rfl) rfl (show 0 < 6 by omega) fun w5 ho=>?_;rw[fa_o3];refine o_store 0 ho rfl (by kernel_rfl) rfl (show 0+3 < 6 by omega) fun w6 ho=>?_;have ho:OwnS M.A w w6 [obE b6 Pg.dict0 nilS nilS,obE b4 ob0 nilS nilS,obE b2 Pg.dict0 nilS nilS,.mem M]:=ho;rw[ob_v ho 0 rfl];refine c_below ho (R:=fun v=>v=.int .i64 (Vl.check 1 Pg.dict0)) (rCheck05_ret Pg.dict0 _ w6 (OV.inw (ho.hasM 3 rfl) hv) (by rw[dict0_wt];omega)) ?_;rintro _ w7 rfl ho;simp only[dict0_check,n_err,show decide ((0:Int)≠0)=false by decide,i_f,rs];rw[ob_v ho 0 rfl];have dr:∀key,Vl.without Pg.dict0 key=Pg.dict0→∀(v:Value) (N:Mem) (W:World),N.has W→OV N.A N.w v Pg.dict0→RetM prog 55 #[v,.string ⟨key.toArray⟩] N W (fun r N=>OV N.A N.w r Pg.dict0):=by
  intro key hk v N W hN hv;have:=rdrop35_ret Pg.dict0 v key N W rfl dict0_check rfl (by rw[dict0_wt];omega) hN hv
  rwa [hk] at this
 refine c_mem ho 3 rfl (dr [70,105,108,116,101,114] (by kernel_rfl) _ M w7 (ho.hasM 3 rfl) hv) fun y N w8 hle hy ho=>?_;refine c_mem ho 3 rfl (dr [68,101,99,111,100,101,80,97,114,109,115] (by kernel_rfl) y N w8 (ho.hasM 3 rfl) hy) fun y N2 w9 hle2 hy ho=>?_;obtain⟨yk,yc,ycs,rfl,hya⟩:=hy.open;refine ob_put 0 hya.keys.one hya.kids.one ho rfl fun w10 ho=>?_;rw[ob_v ho 0 rfl];refine c_mem ho 3 rfl (rstream35_ret s _ N2 w10 hs (ho.hasM 3 rfl) hy) ?_;rintro _ N3 w11 hle3 ⟨t,rfl,ht⟩ ho;obtain⟨tk,tc,tcs,rfl,hta⟩:=ht.open;simp only[errV,ex];refine ob_put 1 hta.keys.one hta.kids.one ho rfl fun w12 ho=>?_;exact ret_ob2 1 ho rfl (hK _ _ N3 _ 3 ho rfl (hle.trans (hle2.trans hle3)) ⟨_,rfl,hta.ov⟩)
theorem Dk.num_bd {d:Dc}(h:Dk.check d=0){i:It}(hi:i∈d.items):1≤i.num∧i.num≤8191:=by
 obtain⟨h1,-⟩:=Dk.check_parts.1 h;have:=(Dk.items_all h1 i hi).1;simp only[Dk.numbers,Bool.and_eq_true,decide_eq_true_eq] at this;omega
theorem rfree35_ret (d:Dc)(dv:Value)(M:Mem)(w:World)(hd:Dk.Ok d)(hc:Dk.check d=0)(hM:M.has w)(hdv:DV M.A M.w dv d) :
  RetM prog 57 #[dv] M w (fun r _=>r=.tuple #[.int .i64 (Dk.free d).1,.int .i64 (Dk.free d).2]):=by
 have hdv0:=hdv;obtain⟨vi,tk,tc,dcs,rfl,hda⟩:=hdv;have hlen:=hd.len;refine retM_of hM fun K hK=>S_foliantref19_Free_ok ?_;unfold S_foliantref19_Free;refine o_dcb d hda.items.one hda.trailer.oneK hda.trailer.oneC (OwnS.memS hM) fun b1 w1 ho=>?_;rw[dc_v ho 0 rfl];refine c_below ho (R:=fun v=>v=.int .i64 (Dk.check d)) (RetM.told (rcheck_ret d _ M w1 hd (ho.hasM 1 rfl) hdv0)) ?_;rintro _ w2 rfl ho;simp only[hc,n_err,show decide ((0:Int)≠0)=false by decide,i_f];have hf:Dk.free d=if 8191 < ((d.items.getLast?.map It.num).getD 0)+1 then (0,30) else (((d.items.getLast?.map It.num).getD 0)+1,0):=by
  unfold Dk.free;rw[if_neg (by simp[hc])]
 refine join fun J hJ=>?_;have fin:∀{W:World} {n:Int},n=((d.items.getLast?.map It.num).getD 0)+1→OwnS M.A w W [dcE b1 d vi tk tc,.mem M]→J [.int .i64 n] W:=by
  intro W n hn ho;refine hJ _ _ fun _=>?_;simp only[S_foliantref19_Free_0,gd,rs];rw[←hn] at hf;by_cases hg:8191 < n
  ·rw[if_pos hg] at hf;simp only[hg,decide_true,i_t];exact hK _ _ M _ 1 ho rfl M.le_refl (by rw[hf])
  ·rw[if_neg hg] at hf;simp only[hg,decide_false,i_f];exact hK _ _ M _ 1 ho rfl M.le_refl (by rw[hf])
 have hsl:=fun (ho:OwnS M.A w w2 [dcE b1 d vi tk tc,.mem M])=>hda.items.now (ho.hasM 1 rfl);rw[fa_d0,dc_items ho 0 rfl,sl_len Tryz.underlying22 (hsl ho)];simp only[rs];by_cases h0:(0:Int) < (d.items.length:Int)
 ·simp only[h0,decide_true,i_t];rw[fa_d0,dc_items ho 0 rfl,fa_d0,dc_items ho 0 rfl,sl_len Tryz.underlying22 (hsl ho)];simp only[rs];rw[wrap64_id (by omega) (by omega),show (d.items.length:Int) - 1=((d.items.length - 1:Nat):Int) by omega];have hi:d.items.length - 1 < d.items.length:=by omega
  obtain⟨xk,xc,b,off,hx,hr⟩:=item_at hda.items hda.all hi;obtain⟨r1,r2⟩:=hr w2 (ho.hasM 1 rfl);refine do_eq r1 |>.mpr ?_;rw[fa_i0];refine do_eq (run_load_cell nInt5 (by have:=r2 0 _ rfl;rwa [Nat.add_zero] at this)) |>.mpr ?_;simp only[rs];obtain⟨q1,q2⟩:=Dk.num_bd hc (List.getElem_mem hi);rw[wrap64_id (by omega) (by omega)];refine fin ?_ ho;rw[List.getLast?_eq_getElem?,List.getElem?_eq_getElem hi];rfl
 ·simp only[h0,decide_false,i_f];refine fin ?_ ho;rw[List.eq_nil_of_length_eq_zero (by omega:d.items.length=0)];rfl
theorem m_it2P {w:World}{PK:PKT}{K:VWP}{a:Int}(o:Ob){vk vc:Value}(hk:vk.oneCell'=true)(hc:vc.oneCell'=true):DoX prog (mBuild 53 #[(0,.int .i64 a),(2,obV o vk vc)]) w PK K=K (itV ⟨a,0,o⟩ vk vc) w:=by
 cases vk<;>first|(cases hk;done)|skip
 all_goals cases vc<;>first|(cases hc;done)|exact do_eq (by kernel_rfl)
theorem radd35_ret (d d':Dc)(o:Ob)(n:Int)(dv v:Value)(M:Mem)(w:World)(hd:Dk.Ok d)(hl:d.items.length < 10000000000)(hc:Dk.check d=0)(hf:Dk.free d=(n,0))(hp:Dk.put d ⟨n,0,o⟩=(d',0))(hw:o.wt≤1000000000)(hM:M.has w)(hdv:DV M.A M.w dv d)(hv:OV M.A M.w v o) :
  RetM prog 30 #[dv,v] M w (fun r N=>∃v',r=.tuple #[v',.int .i64 n,.int .i64 0]∧DV N.A N.w v' d'):=by
 obtain⟨vk,vc,cs,rfl,ha⟩:=hv.open;obtain⟨vi,tk,tc,dcs,rfl,hda⟩:=hdv;refine retM_of hM fun K hK=>S_foliantref19_Add_ok ?_;unfold S_foliantref19_Add;refine o_dcb d hda.items.one hda.trailer.oneK hda.trailer.oneC (OwnS.memS hM) fun b2 w1 ho=>?_;refine o_obb o ha.keys.one ha.kids.one ho fun b3 w2 ho=>?_;refine o_dca ho fun b4 w3 ho=>?_;rw[dc_v ho 2 rfl];refine c_below ho (R:=fun v=>v=.tuple #[.int .i64 n,.int .i64 0]) (RetM.told (by have:=rfree35_ret d _ M w3 hd hc (ho.hasM 3 rfl) hda.dv;rwa [hf] at this)) ?_;rintro _ w4 rfl ho;simp only[ex,n_err,show decide ((0:Int)≠0)=false by decide,i_f];rw[dc_v ho 2 rfl,ob_v ho 1 rfl,m_it2P o ha.keys.one ha.kids.one];refine c_mem ho 3 rfl (rputD_ret d ⟨n,0,o⟩ _ _ M w4 hd hl hw (ho.hasM 3 rfl) hda.dv ⟨vk,vc,rfl,ha.ov⟩) ?_;rintro _ N w5 hle ⟨y,rfl,hy⟩ ho;rw[hp] at hy ⊢;obtain⟨ui,uk,uc,ucs,rfl,hua⟩:=hy;simp only[errV,ex];refine o_dca ho fun b9 w6 ho=>?_;refine dc_put 0 hua.items.one hua.trailer.oneK hua.trailer.oneC ho rfl fun w7 ho=>?_;simp only[n_err,show decide ((0:Int)≠0)=false by decide,i_f];rw[dc_v ho 0 rfl];refine dc_put 1 hua.items.one hua.trailer.oneK hua.trailer.oneC ho rfl fun w8 ho=>?_;refine ret_v3 (rv_cell (ho.agg 1 rfl aggDc)) rv_val rv_val (hK _ _ N _ 4 ho rfl hle ⟨_,rfl,hua.dv⟩)
end
section
open Eng Go.RowKit
theorem Pg.conF_wt (l:List (List UInt8))(hl:l.length≤10):(Pg.conF l).wt≤1000:=by
 have h:∀(l:List (List UInt8)) (k:Nat),Ob.wts (Pg.refsF k l)≤10*l.length:=by
  intro l
  induction l with
 |nil=>intro k;simp[Pg.refsF,Ob.wts]
 |cons a l ih=>
   intro k;have:=ih (k+1);rw[Pg.refsF,Ob.wts,List.length_cons];have:(Pg.refO (k:Int)).wt≤10:=by simp[Pg.refO,Ob.wt,Ob.wts,Pl.tot]
   omega
 have h1:=h l 6;rw[Vl.wt_eq];simp only[Pg.conF,Pg.arrO,Ob.s,Ob.keys,Ob.kids,List.length_nil,Pl.tot,List.map_nil,List.sum_nil];omega
theorem Pg.strm_wt (s:List UInt8):(Pg.strmO s).wt≤s.length+10:=by
 rw[Vl.wt_eq];simp[Pg.strmO,Ob.s,Ob.keys,Ob.kids,Ob.wts,Pl.tot];omega
theorem Pg.itemsF_wt {B:Nat}(hB:200≤B):∀(l:List (List UInt8)) (k:Nat),(∀s∈l,s.length≤100)→∀i∈Pg.itemsF k l,i.obj.wt≤B
|[],_,_,i,hi=>by cases hi
|s::l,k,hs,i,hi=>by
  rw[Pg.itemsF] at hi;rcases List.mem_cons.1 hi with rfl|hi
  ·have:=Pg.strm_wt s;have:=hs s (List.mem_cons_self ..);show (Pg.strmO s).wt≤B;omega
  ·exact Pg.itemsF_wt hB l (k+1) (fun s h=>hs s (List.mem_cons_of_mem _ h)) i hi
theorem Pg.itemsF_len:∀(l:List (List UInt8)) (k:Nat),(Pg.itemsF k l).length=l.length
|[],_=>rfl
|a::l,k=>by rw[Pg.itemsF,List.length_cons,Pg.itemsF_len l (k+1),List.length_cons]
theorem Pg.docT_ok {c:Ob}{l:List (List UInt8)}(hc:c.wt≤1000)(hl:l.length≤10)(hs:∀s∈l,s.length≤100):Dk.Ok (Pg.docT c (Pg.itemsF 6 l)):=by
 refine⟨?_,fun i hi=>?_,(show Pg.trO.wt≤_ by decide +kernel)⟩
 ·simp only[Pg.docT,List.length_append,Pg.itemsF_len];simp;omega
 ·rcases List.mem_append.1 hi with hi|hi
  ·simp only[List.mem_cons,List.not_mem_nil,or_false] at hi;rcases hi with rfl|rfl|rfl|rfl|rfl
   ·decide +kernel
   ·decide +kernel
   ·show (Pg.oneO c).wt≤_;rw[Vl.wt_eq];simp only[Pg.oneO,Ob.s,Ob.keys,Ob.kids,Ob.wts,List.length_nil];have h1:Pl.tot [Pg.conK,Dk.typeK]≤100:=by decide
    have h2:(Pg.nameO Pg.pageN).wt≤100:=by decide
    omega
   ·decide +kernel
   ·decide +kernel
  ·exact Pg.itemsF_wt (by omega) l 6 hs i hi
section
variable {w:World}{PK:PKT}{K:VWP}{S:Nat→Prop}{w0:World}{L:List Ent}
theorem o_apOb (i:Nat){v v2:Value}{n m:Nat}{xs news:List Value}{cb:Array Bool}(ho:OwnS S w0 w L)(hi:L[i]?=some (.urow 26 6 v n xs))(hs:Sl w v2 6 m news)(h1:∀u∈news,u.oneCell'=true)(hb:n+m≤100000000000)
  (k:∀v' w',OwnS S w0 w' (L.set i (.urow 26 6 v' (n+m) (xs++news)))→K v' w'):DoX prog (mB .append #[24,24] 24 cb #[v,v2]) w PK K:=
 o_appendU i Tryz.underlying24 elOb (by decide) ho hi hs h1 (by omega) (by omega) k
end
def Pg.sofar (l:List (List UInt8)):List UInt8:=Pg.texts (l.map Pg.strmO)
theorem Pg.sofar_snoc (l:List (List UInt8))(s:List UInt8):Pg.sofar (l++[s])=(if l=[] then [] else Pg.sofar l++[10])++s:=by
 unfold Pg.sofar;by_cases h:l=[]
 ·subst h;simp[Pg.texts,Pg.strmO,Ob.s]
 ·rw[if_neg h,Pg.texts_join l s h];simp
theorem Pg.sofar_len:∀(n:Nat) (l:List (List UInt8)),l.length=n→(∀s∈l,s.length≤100)→(Pg.sofar l).length≤101*n:=by
 intro n
 induction n with
|zero=>intro l h _;rw[List.eq_nil_of_length_eq_zero h];simp[Pg.sofar,Pg.texts]
|succ n ih=>
  intro l h hs;rcases List.eq_nil_or_concat l with rfl|⟨m,s,rfl⟩
  ·simp at h
  ·rw[List.concat_eq_append] at h hs ⊢;rw[List.length_append,List.length_singleton] at h;have h1:=ih m (by omega) fun x hx=>hs x (List.mem_append_left _ hx);have h2:=hs s (by simp);rw[Pg.sofar_snoc,List.length_append];split
   ·simp;omega
   ·rw[List.length_append,List.length_singleton];omega
theorem item_at2 {M:Mem}{vi:Value}{l:List It}{cs:List Value}(hs:SlA M.A M.w vi 8 l.length cs)(hall:IVs M.A M.w cs l){i:Nat}(hi:i < l.length) :
  ∃(vk vc:Value) (b off:Nat),OV M.A M.w (obV l[i].obj vk vc) l[i].obj∧(∀W,(mIA 22 vi (.int .i64 (i:Int))).run prog W=.ok (.value (.pointer (some ⟨b,off,none⟩))) W)∧∀W,M.has W→(mLoad 26 (.pointer (some ⟨b,off+2,none⟩))).run prog W=.ok (.value (obV l[i].obj vk vc)) W:=by
 obtain⟨b,off,cap,rfl,_⟩:=sl_open hs.1 (by omega);obtain⟨a,⟨vk,vc,rfl,ho⟩,hget⟩:=Rws.get itR_len i hi hall;refine⟨vk,vc,b,off+i*8,ho,fun W=>?_,fun W hW=>run_load_at (AtV.agg aggOb (cs:=obC l[i].obj vk vc) rfl fun j u hj=>?_)⟩
 ·refine (run_ia Tryz.underlying22 szIt (by omega) (by omega)).trans ?_;rw[Int.toNat_natCast]
 ·obtain⟨b',off',cap',he,hcell⟩:=sl_open (hs.now hW) (by omega);cases he;have:=hcell (i*8+(2+j)) u (hget (2+j) u (by show (itC l[i] vk vc)[2+j]?=_;rw[Nat.add_comm];exact hj));rw[show off+i*8+2+j=off+(i*8+(2+j)) by omega];exact this
theorem text_end {M N:Mem}{w W:World}{K:Ending→World→Prop}{l:List (List UInt8)}{b3 b12:Nat}{vi tk tc xk xc:Value}{dcs:List Value}(hs:∀s∈l,s.length≤100)(hl:l.length≤10)(hle:M.le N)
  (hda:DocAt N.A N.w (Pg.docF l) vi tk tc dcs) (hx:OV N.A N.w (obV (Pg.oneO (Pg.conF l)) xk xc) (Pg.oneO (Pg.conF l))) (ho:OwnS M.A w W [obE b12 (Pg.oneO (Pg.conF l)) xk xc,dcE b3 (Pg.docF l) vi tk tc,.mem N])
  (hK:∀(v:Value) (w':World) (N:Mem) (L:List Ent) (i:Nat),OwnS M.A w w' L→L[i]?=some (.mem N)→M.le N→v=.bool true→K (.returned v) w') :
  S_foliantlaw35_PagesText_2 (.pointer (some ⟨b3,0,none⟩)) (.string ⟨(Pg.sofar l).toArray⟩) (.pointer (some ⟨b12,0,none⟩)) (.int .i64 0) W K:=by
 unfold S_foliantlaw35_PagesText_2;have hcw:=Pg.conF_wt l hl;have hd:=Pg.docT_ok (c:=Pg.conS) (l:=l) (by decide) hl hs;have hd2:=Pg.docT_ok (c:=Pg.conF l) (l:=l) hcw hl hs;have hs2:∀s∈l,s.length≤1048576:=fun s h=>by have:=hs s h;omega
 obtain⟨hput,hchk⟩:=Pg.put_con hs2 hl;rw[dc_v ho 1 rfl,ob_v ho 0 rfl,m_it2P _ hx.oneK hx.oneC];have hw3:(Pg.oneO (Pg.conF l)).wt≤1000000000:=hd2.items ⟨3,0,Pg.oneO (Pg.conF l)⟩ (by simp[Pg.docT]);refine c_mem ho 2 rfl (rputD_ret (Pg.docF l) ⟨3,0,Pg.oneO (Pg.conF l)⟩ _ _ N W hd (by
  simp only[Pg.docF,Pg.docT,List.length_append,Pg.itemsF_len];simp;omega) hw3 (ho.hasM 2 rfl) hda.dv ⟨xk,xc,rfl,hx⟩) ?_
 rintro _ N2 w2 g2 ⟨y,rfl,hy⟩ ho;rw[hput] at hy ⊢;obtain⟨ui,uk,uc,ucs,rfl,hua⟩:=hy;simp only[errV,ex];refine o_dca ho fun b14 w3 ho=>?_;refine dc_put 0 hua.items.one hua.trailer.oneK hua.trailer.oneC ho rfl fun w4 ho=>?_;rw[dc_v ho 0 rfl];have hat:Pg.at_ (Pg.docT (Pg.conF l) (Pg.itemsF 6 l)) 0=(⟨3,[Pg.oneO (Pg.conF l),Pg.treeO]⟩,0):=by
  unfold Pg.at_;rw[Pg.leaves_docT hchk];rfl
 have hst:Pg.streams (Pg.docT (Pg.conF l) (Pg.itemsF 6 l)) (Pg.conF l)=l.map Pg.strmO:=Pg.streams_con l;have hlen:=Pg.sofar_len _ l rfl hs;refine c_mem ho 3 rfl (pcontent_ret (Pg.docT (Pg.conF l) (Pg.itemsF 6 l)) 0 _ N2 w4 hd2 (by rw[Pg.get1 hchk]) ⟨3,[Pg.oneO (Pg.conF l),Pg.treeO]⟩ (by rw[hat]) (Pg.conF l) (Pg.oneO (Pg.conF l)) [Pg.treeO] rfl rfl (show (6:Int)≠0 by decide)
  (by rw[hst];intro o ho;obtain⟨s,-,rfl⟩:=List.mem_map.1 ho;rfl)
  (by rw[hst,List.length_map];omega)
  (by rw[hst];unfold Pg.sofar at hlen;omega) (ho.hasM 3 rfl) hua.dv) ?_
 rintro _ N3 w5 g3 rfl ho;rw[hst];simp only[ex];simp only[rs,decide_true,e_str,Pg.sofar];refine c_mem ho 3 rfl (lives35_ret N3 w5 (ho.hasM 3 rfl)) ?_;rintro _ N4 w6 g4 rfl ho
 try simp only[rs]
 exact hK _ _ N4 _ 3 ho rfl (hle.trans (g2.trans (g3.trans g4))) rfl
theorem pagesText_ret (ss:List (List UInt8))(v0:Value)(M:Mem)(w:World)(hM:M.has w)(hv0:SlA M.A M.w v0 1 ss.length (strsV ss))(hb:ss.length≤1000000000)(hbs:∀s∈ss,s.length≤1000000000) :
  RetM prog 7 #[v0] M w (fun r _=>r=.bool true):=by
 refine retM_of hM fun K hK=>S_foliantlaw35_PagesText_ok ?_;unfold S_foliantlaw35_PagesText;have ho:OwnS M.A w w [.mem M]:=OwnS.memS hM;have live:∀{W:World} {N:Mem} {L:List Ent} (i:Nat),OwnS M.A w W L→L[i]?=some (.mem N)→M.le N →
   CallX prog 9 #[] W (Eng.pk K) fun t W=>K (.returned t) W:=by
  intro W N L i ho hi hle;refine c_mem ho i hi (lives35_ret N W (ho.hasM i hi)) ?_;rintro _ N' W' hle' rfl ho;have hil:=(List.getElem?_eq_some_iff.1 hi).1;exact hK _ _ N' _ i ho (by rw[List.getElem?_set_self hil]) (hle.trans hle') rfl
 rw[sl_len Tryz.underlying23 (hv0.now (ho.hasM 0 rfl))];simp only[rs];by_cases h10:(10:Int) < (ss.length:Int)
 ·simp only[h10,decide_true,i_t];exact live 0 ho rfl M.le_refl
 simp only[h10,decide_false,i_f];refine c_mem ho 0 rfl (lsample_ret M w hM) ?_;rintro y N w1 hle ⟨vi,tk,tc,dcs,rfl,hda⟩ ho;refine o_dca ho fun b3 w2 ho=>?_;refine dc_put 0 hda.items.one hda.trailer.oneK hda.trailer.oneC ho rfl fun w3 ho=>?_;have ho:OwnS M.A w w3 [.urow 26 6 nilS 0 [],dcE b3 (Pg.docF []) vi tk tc,.mem N]:=OwnS.nilU (L:=[dcE b3 (Pg.docF []) vi tk tc,.mem N]) ho _ _;refine loop (fun vs W=>∃(i:Nat) (N:Mem) (v vi tk tc:Value) (ds dcs:List Value),vs=[v,.string ⟨(Pg.sofar (ss.take i)).toArray⟩,.int .i64 i]∧i≤ss.length∧M.le N∧(∀s∈ss.take i,s.length≤100)∧OVs N.A N.w ds (Pg.refsF 6 (ss.take i))∧DocAt N.A N.w (Pg.docF (ss.take i)) vi tk tc dcs ∧
   OwnS M.A w W [.urow 26 6 v i ds,dcE b3 (Pg.docF (ss.take i)) vi tk tc,.mem N]) (fun vs _=>ss.length - n2 vs)
  ⟨0,N,nilS,vi,tk,tc,[],dcs,rfl,by omega,hle,by simp,.nil,hda,ho⟩ ?_
 clear ho hda hle;rintro vs w4 ⟨i,N,v,vi,tk,tc,ds,dcs,rfl,hi,hle,hss,hds,hda,ho⟩ _;simp only[S_foliantlaw35_PagesText_0,gd];have hv0:=hv0.le hle;have hli:(ss.take i).length=i:=by rw[List.length_take];omega
 rw[sl_len Tryz.underlying23 (hv0.now (ho.hasM 2 rfl))];simp only[rs];by_cases hlt:(i:Int) < (ss.length:Int)
 ·have hi':i < ss.length:=by omega
  simp only[hlt,decide_true,i_t];obtain⟨q,hq⟩:=str_at hv0 hi';have hsl:=hbs _ (List.getElem_mem hi');refine do_eq (hq w4 (ho.hasM 2 rfl)).1 |>.mpr (do_eq (hq w4 (ho.hasM 2 rfl)).2 |>.mpr ?_);rw[s_len Tryz.underlying9];simp only[rs];by_cases h100:(100:Int) < (ss[i].length:Int)
  ·simp only[h100,decide_true,i_t];exact live 2 ho rfl hle
  simp only[h100,decide_false,i_f];rw[m_dict];refine do_eq (hq w4 (ho.hasM 2 rfl)).1 |>.mpr (do_eq (hq w4 (ho.hasM 2 rfl)).2 |>.mpr ?_);refine c_mem ho 2 rfl (rplain35_ret ss[i] N w4 (by omega) (ho.hasM 2 rfl)) ?_;rintro _ N2 w5 g2 ⟨y,rfl,hy⟩ ho;obtain⟨yk,yc,ycs,rfl,hya⟩:=hy.open;simp only[errV,ex];refine o_oba ho fun b7 w6 ho=>?_;refine ob_put 0 hya.keys.one hya.kids.one ho rfl fun w7 ho=>?_;rw[dc_v ho 2 rfl,ob_v ho 0 rfl];have htk:ss.take (i+1)=ss.take i++[ss[i]]:=by rw[List.take_succ_eq_append_getElem hi']
  have hok:=Pg.docF_ok (l:=ss.take i) (fun s h=>by have:=hss s h;omega) (by omega);have hfree:=Pg.docF_free hok (by omega);obtain⟨hput,-⟩:=Pg.docF_add (s:=ss[i]) hok (by omega) (by omega);rw[←htk] at hput;rw[hli] at hfree hput;have hd:=Pg.docT_ok (c:=Pg.conS) (l:=ss.take i) (by decide) (by omega) hss;have hsw:=Pg.strm_wt ss[i];refine c_mem ho 3 rfl (radd35_ret (Pg.docF (ss.take i)) (Pg.docF (ss.take (i+1))) (Pg.strmO ss[i]) ((6+i:Nat):Int) _ _ N2 w7 hd (by
   simp only[Pg.docF,Pg.docT,List.length_append,Pg.itemsF_len];simp;omega) hok hfree hput (by omega) (ho.hasM 3 rfl) (hda.le g2).dv hy) ?_
  rintro _ N3 w8 g3 ⟨z,rfl,ui,uk,uc,ucs,rfl,hua⟩ ho;simp only[ex];refine o_dca ho fun b9 w9 ho=>?_;refine dc_put 0 hua.items.one hua.trailer.oneK hua.trailer.oneC ho rfl fun w10 ho=>?_;simp only[n_err,show decide ((0:Int)≠0)=false by decide,rs];rw[dc_v ho 0 rfl];refine dc_put 3 hua.items.one hua.trailer.oneK hua.trailer.oneC ho rfl fun w11 ho=>?_;refine c_ref35 ((6+i:Nat):Int) ho fun w12 ho=>?_;refine o_obs1 _ rfl rfl ho fun b62 w13 ho=>?_;refine o_apOb 3 ho rfl (ho.sl 0 rfl 6 1 1 rfl) (obC_one _ rfl rfl) (by omega) fun v' w14 ho=>?_;have ho:OwnS M.A w w14 [.urow 26 6 v' (i+1) (ds++obC (Pg.refO ((6+i:Nat):Int)) nilS nilS),dcE b3 (Pg.docF (ss.take (i+1))) ui uk uc,.mem N3]:=ho.tail.tail.tail;have g23:=g2.trans g3;have hrefs:OVs N3.A N3.w (ds++obC (Pg.refO ((6+i:Nat):Int)) nilS nilS) (Pg.refsF 6 (ss.take (i+1))):=by
   rw[htk,Pg.refsF_app,hli];exact ovs_app (hds.le g23) (ovs_1 (leaf_ov N3 _ _ _ _))
  have hlen:=Pg.sofar_len _ (ss.take i) hli hss;have hnext:=Pg.sofar_snoc (ss.take i) ss[i];rw[←htk] at hnext;have hse:(ss.take i=[])↔i=0:=⟨fun h=>by rw[h] at hli;simpa using hli.symm,fun h=>by subst h;rfl⟩;refine join fun J hJ=>?_;have fin:∀(t:List UInt8),t.length≤10000→Pg.sofar (ss.take (i+1))=t++ss[i]→J [.string ⟨t.toArray⟩] w14:=by
   intro t ht he;refine hJ _ _ fun _=>?_;simp only[S_foliantlaw35_PagesText_1,gd];refine do_eq (hq w14 (Mem.has_of g23 (ho.hasM 2 rfl))).1 |>.mpr (do_eq (hq w14 (Mem.has_of g23 (ho.hasM 2 rfl))).2 |>.mpr ?_);rw[s_add (by omega),←he];simp only[rs];rw[wrap64_id (by omega) (by omega)];refine nextX ⟨i+1,N3,v',ui,uk,uc,_,ucs,rfl,by omega,hle.trans g23,fun s hs=>?_,hrefs,hua,ho⟩ (by simp[n2,RowKit.intOf];omega);rw[htk] at hs;rcases List.mem_append.1 hs with hs|hs
   ·exact hss s hs
   ·have:s=ss[i]:=by simpa using hs
    subst this;omega
  try simp only[rs]
  by_cases h0:i=0
  ·subst h0;rw[show decide ((0:Int) < ((0:Nat):Int))=false from rfl,i_f];exact fin [] (by simp) (by rw[hnext,if_pos (hse.2 rfl)])
  ·rw[decide_eq_true (by omega),i_t,show (Value.string ⟨#[10]⟩)=.string ⟨([10]:List UInt8).toArray⟩ from rfl,s_add (by simp;omega)];exact fin _ (by rw[List.length_append];simp;omega) (by rw[hnext,if_neg (fun h=>h0 (hse.1 h))])
 ·simp only[hlt,decide_false,i_f];have hie:i=ss.length:=by omega
  subst hie;rw[List.take_length] at hss hds hda ho ⊢;obtain⟨N1,g1,hrow,hoF⟩:=OwnS.freezeU (L:=[dcE b3 (Pg.docF ss) vi tk tc,.mem N]) ho 1 rfl;have hoF:OwnS M.A w w4 [dcE b3 (Pg.docF ss) vi tk tc,.mem N1]:=hoF;have hda:=hda.le g1;have hch:Chn N1.A N1.w v (Pg.refsF 6 ss):=⟨ds,by rw[Pg.refsF_len];exact hrow,hds.le g1⟩;obtain⟨a,c,rfl,_⟩:=hrow.form;have hl:=hle.trans g1;have hcw:=Pg.conF_wt ss (by omega);obtain⟨xk,xc,b,off,hx,hr1,hr2⟩:=item_at2 (l:=(Pg.docF ss).items) hda.items hda.all (i:=2) (by simp[Pg.docF,Pg.docT]);have hxe:(Pg.docF ss).items[2]'(by simp[Pg.docF,Pg.docT])=⟨3,0,Pg.oneO Pg.conS⟩:=rfl;rw[hxe] at hx hr2;have hx:OV N1.A N1.w (obV (Pg.oneO Pg.conS) xk xc) (Pg.oneO Pg.conS):=hx;have fin:∀{W:World} {N':Mem} {yk yc:Value} (b12:Nat),N1.le N'→OV N'.A N'.w (obV (Pg.oneO (Pg.conF ss)) yk yc) (Pg.oneO (Pg.conF ss))→OwnS M.A w W [obE b12 (Pg.oneO (Pg.conF ss)) yk yc,dcE b3 (Pg.docF ss) vi tk tc,.mem N'] →
    S_foliantlaw35_PagesText_2 (.pointer (some ⟨b3,0,none⟩)) (.string ⟨(Pg.sofar ss).toArray⟩) (.pointer (some ⟨b12,0,none⟩)) (.int .i64 0) W K:=
   fun b12 g hy ho=>text_end hss (by omega) (hl.trans g) (hda.le g) hy ho hK
  have sset:∀{W:World} {N:Mem} {L:List Ent} {F:VWP} {PK:PKT} (_:N1.le N) (i:Nat) (_:OwnS M.A w W L) (_:L[i]?=some (.mem N))
    (_:∀W N' yk yc,N1.le N'→yk.oneCell'=true→yc.oneCell'=true→OV N'.A N'.w (obV (Pg.oneO (Pg.conF ss)) yk yc) (Pg.oneO (Pg.conF ss))→OwnS M.A w W (L.set i (.mem N'))→F (errV (obV (Pg.oneO (Pg.conF ss)) yk yc) 0) W),
    CallX prog 23 #[obV (Pg.oneO Pg.conS) xk xc,.string ⟨#[67,111,110,116,101,110,116,115]⟩,obV (Pg.conF ss) nilS (.slice a ss.length c)] W PK F:=by
   intro W N L F PK hl i ho hi hF;refine c_mem ho i hi (rset_ret (Pg.oneO Pg.conS) (Pg.conF ss) _ _ Pg.conK N W (by decide +kernel) (by omega) (by decide) (ho.hasM i hi) (hx.le hl) (arr_ov (hch.le hl))) ?_;rintro _ N' W' hl' ⟨y,rfl,hy⟩ ho;rw[Pg.set_con ss (Pg.con_check (by omega))] at hy ⊢;obtain⟨yk,yc,ycs,rfl,hya⟩:=hy.open;exact hF W' N' yk yc (hl.trans hl') hya.keys.one hya.kids.one hy ho
  have ho:=hoF.drew;refine⟨fun W=>(dcE b3 (Pg.docF ss) vi tk tc).is W∧N1.has W,⟨ho.at_ 0 rfl,ho.hasM 1 rfl⟩,?_⟩;refine hd_pure _ (fun _=>run_fa fo_d0) (hd_do _ (fun W h=>run_load_cell nSlIt (cells_cell (T:=28) (cs:=dcC (Pg.docF ss) vi tk tc) h.1 rfl)) ?_);refine hd_pure _ hr1 (hd_pure _ (fun _=>run_fa fo_i2) (hd_do _ (fun W h=>hr2 W h.2) ?_));constructor
  ·refine c_arr35 (Pg.refsF 6 ss) _ _ _ ho fun w5 ho=>⟨⟨ho.at_ 0 rfl,ho.hasM 1 rfl⟩,?_⟩;constructor
   ·refine sset N1.le_refl 1 ho rfl fun w6 N' yk yc hl1 hk1 hc1 hy ho=>⟨⟨ho.at_ 0 rfl,Mem.has_of hl1 (ho.hasM 1 rfl)⟩,hd_ext (hd_ext1 ?_)⟩;refine o_oba ho fun b12 w7 ho=>⟨⟨ho.at_ 1 rfl,Mem.has_of hl1 (ho.hasM 2 rfl)⟩,?_⟩;refine ob_put 0 hk1 hc1 ho rfl fun w8 ho=>?_;exact fin b12 hl1 hy ho
   ·refine o_oba ho fun b12 w7 ho=>⟨⟨ho.at_ 1 rfl,ho.hasM 2 rfl⟩,?_⟩;refine sset N1.le_refl 2 ho rfl fun w6 N' yk yc hl1 hk1 hc1 hy ho=>⟨⟨ho.at_ 1 rfl,Mem.has_of hl1 (ho.hasM 2 rfl)⟩,hd_ext (hd_ext1 ?_)⟩;refine ob_put 0 hk1 hc1 ho rfl fun w8 ho=>?_;exact fin b12 hl1 hy ho
  ·refine o_oba ho fun b12 w7 ho=>⟨⟨ho.at_ 1 rfl,ho.hasM 2 rfl⟩,?_⟩;refine c_arr35 (Pg.refsF 6 ss) _ _ _ ho fun w5 ho=>⟨⟨ho.at_ 1 rfl,ho.hasM 2 rfl⟩,?_⟩;refine sset N1.le_refl 2 ho rfl fun w6 N' yk yc hl1 hk1 hc1 hy ho=>⟨⟨ho.at_ 1 rfl,Mem.has_of hl1 (ho.hasM 2 rfl)⟩,hd_ext (hd_ext1 ?_)⟩;refine ob_put 0 hk1 hc1 ho rfl fun w8 ho=>?_;exact fin b12 hl1 hy ho
end
end Go.Proofs.YtoobidofdpdkbaaGreatDoor











namespace Go.Proofs.YtoobidofdpdkbaaGreatDoor
section
open Eng Go.RowKit Go.ChangeShapes Go.WideShapes Go.ChangeAt
set_option maxRecDepth 100000
def layReps (w:World)(g:Nat):World:=
 { w with heap:=(w.heap.modify g fun
  |.cells _ t frozen=>.cells #[.map (some w.heap.size)] t frozen
  |o=>o).push (.map #[⟨.int .i64 16,.agg #[.int .i64 3,.int .i64 2],0⟩,⟨.int .i64 17,.agg #[.int .i64 3,.int .i64 3],1⟩,⟨.int .i64 18,.agg #[.int .i64 11,.int .i64 7],2⟩] 3) }
theorem strs_sum:∀{l:List (List UInt8)} {s:List UInt8},s∈l→s.length+1≤(l.map fun s=>s.length+1).sum
|a::l,s,h=>by
  rw[List.map_cons,List.sum_cons];rcases List.mem_cons.1 h with rfl|h
  ·omega
  ·have:=strs_sum h;omega
theorem strs_len:∀l:List (List UInt8),l.length≤(l.map fun s=>s.length+1).sum
|[]=>by simp
|a::l=>by
  have:=strs_len l;rw[List.map_cons,List.sum_cons,List.length_cons];omega
section
variable {H:Type}{enc:TypeId×Value→H}{W:World}{sp:Nat→Bool}{held:Bool}
theorem open_str35 (fuel:Nat)(cs:List Value)(x:DataW H×List MemPlace)(h:DataW.trod enc prog W 0 sp held fuel 9 cs=some x):∃s:List UInt8,cs=[.string ⟨s.toArray⟩]∧cs.length=1∧s.length+1≤Rows.uptoBulk x.1:=by
 obtain⟨s,rfl,rfl,_⟩:=DataW.trod_string Tryz.underlying9 h;refine⟨s.data.toList,rfl,rfl,?_⟩;simp only[Rows.uptoBulk];omega
theorem row_strs35 {b0:Nat}{v:Value}{d:DataW H}{ps:List MemPlace}(hval:Value.okWide prog W .any b0 23 v)(hd:DataW.Trod enc prog W 0 sp held 23 v d ps) :
  ∃l:List (List UInt8),SlA (InW W) W v 1 l.length (strsV l)∧l.length≤Rows.uptoBulk d∧∀s∈l,s.length≤Rows.uptoBulk d:=by
 obtain⟨a,len,cap,rfl⟩:=okWide_slice Tryz.underlying23 hval;obtain⟨fuel,hf⟩:=hd;obtain⟨v',ds,xs,h1,h2,h3,h4,h5⟩:=open_slice_of (R:=fun cs (s:List UInt8)=>cs=[.string ⟨s.toArray⟩]) (wt:=fun s:List UInt8=>s.length+1) (n:=1) Tryz.underlying23 (by kernel_rfl) (by decide) open_str35 hf;have e:v'=.slice a len cap:=by
  have h1:[Value.slice a len cap]=[v']:=h1
  injection h1 with h1 _
  exact h1.symm
 subst e;have hfl:ds=strsV xs:=by
  have:=Rws.flat h3;rw[this];clear this h3 h2 h5 h4
  induction xs with
 |nil=>rfl
 |cons s xs ih=>rw[List.flatMap_cons,ih];rfl
 subst hfl;have h5:_+1≤Rows.uptoBulk d:=h5;have hl:=strs_len xs;refine⟨xs,h2,by omega,fun s hs=>?_⟩;have:=strs_sum hs;omega
end
theorem pagesText_row (l:List (List UInt8))(v:Value)(w:World)(hs:SlA (InW w) w v 1 l.length (strsV l))(hl:l.length≤1048576)(he:∀s∈l,s.length≤1048576):Ret prog 7 #[v] w (fun v w'=>v=.bool true∧Below w.heap.size w w'):=
 RetM.told (pagesText_ret l v (Mem.all w) w (Mem.all_has w) hs (by omega) (fun s h=>by have:=he s h;omega))
end
end Go.Proofs.YtoobidofdpdkbaaGreatDoor
