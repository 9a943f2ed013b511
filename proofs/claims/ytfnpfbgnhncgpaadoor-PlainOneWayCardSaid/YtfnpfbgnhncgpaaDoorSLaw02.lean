/- Code in continuation form, by program (gen.py): 6 functions. -/
import Derived.Test.YtfnpfbgnhncgpaaDoorEngM
import Derived.Test.YtfnpfbgnhncgpaaDoorRows
namespace Go.Proofs.YtfnpfbgnhncgpaaDoor
set_option linter.unusedVariables false
set_option linter.unusedSimpArgs false
set_option linter.defProp false
set_option linter.unusedVariables false
set_option maxRecDepth 20000
open Eng

/- foliantlaw02.lives -/
def S_foliantlaw02_lives (w : World) (K : Ending → World → Prop) : Prop :=
 CallX Tryd.prog 18 #[(.string ⟨#[45, 46, 50, 53]⟩)] w (pk K) fun t26 w =>
 DoX Tryd.prog (mExt t26 0) w (pk K) fun t27 w =>
 DoX Tryd.prog (mExt t26 1) w (pk K) fun t28 w =>
 CallX Tryd.prog 18 #[(.string ⟨#[48, 46, 48, 48, 48, 48, 53]⟩)] w (pk K) fun t30 w =>
 DoX Tryd.prog (mExt t30 0) w (pk K) fun t31 w =>
 DoX Tryd.prog (mExt t30 1) w (pk K) fun t32 w =>
 CallX Tryd.prog 18 #[(.string ⟨#[45, 48, 46, 48, 48, 48, 48, 53]⟩)] w (pk K) fun t34 w =>
 DoX Tryd.prog (mExt t34 0) w (pk K) fun t35 w =>
 DoX Tryd.prog (mExt t34 1) w (pk K) fun t36 w =>
 CallX Tryd.prog 18 #[(.string ⟨#[49, 101, 51]⟩)] w (pk K) fun t38 w =>
 DoX Tryd.prog (mExt t38 0) w (pk K) fun t39 w =>
 DoX Tryd.prog (mExt t38 1) w (pk K) fun t40 w =>
 CallX Tryd.prog 18 #[(.string ⟨#[49, 48, 55, 51, 55, 53]⟩)] w (pk K) fun t42 w =>
 DoX Tryd.prog (mExt t42 0) w (pk K) fun t43 w =>
 DoX Tryd.prog (mExt t42 1) w (pk K) fun t44 w =>
 DoX Tryd.prog (mEq .neq 2 (.tmp 45) (.const (.int .i64 (-2500))) t27 (.int .i64 (-2500))) w (pk K) fun t46 w =>
 GDo t46 false (fun E => E t28 w) w fun t48 w =>
 GDo t46 false (fun E => DoX Tryd.prog (mEq .neq 23 (.tmp 48) (.const (.int .i64 0)) t48 (.int .i64 0)) w (pk K) E) w fun t49 w =>
 DoX Tryd.prog (mPick t46 (.bool true) t49) w (pk K) fun t50 w =>
 GDo t50 false (fun E => E t31 w) w fun t52 w =>
 GDo t50 false (fun E => DoX Tryd.prog (mEq .neq 2 (.tmp 52) (.const (.int .i64 1)) t52 (.int .i64 1)) w (pk K) E) w fun t53 w =>
 DoX Tryd.prog (mPick t50 (.bool true) t53) w (pk K) fun t54 w =>
 GDo t54 false (fun E => E t32 w) w fun t56 w =>
 GDo t54 false (fun E => DoX Tryd.prog (mEq .neq 23 (.tmp 56) (.const (.int .i64 0)) t56 (.int .i64 0)) w (pk K) E) w fun t57 w =>
 DoX Tryd.prog (mPick t54 (.bool true) t57) w (pk K) fun t58 w =>
 GDo t58 false (fun E => E t35 w) w fun t60 w =>
 GDo t58 false (fun E => DoX Tryd.prog (mEq .neq 2 (.tmp 60) (.const (.int .i64 0)) t60 (.int .i64 0)) w (pk K) E) w fun t61 w =>
 DoX Tryd.prog (mPick t58 (.bool true) t61) w (pk K) fun t62 w =>
 GDo t62 false (fun E => E t36 w) w fun t64 w =>
 GDo t62 false (fun E => DoX Tryd.prog (mEq .neq 23 (.tmp 64) (.const (.int .i64 0)) t64 (.int .i64 0)) w (pk K) E) w fun t65 w =>
 DoX Tryd.prog (mPick t62 (.bool true) t65) w (pk K) fun t66 w =>
 GDo t66 false (fun E => E t40 w) w fun t68 w =>
 GDo t66 false (fun E => DoX Tryd.prog (mEq .neq 23 (.tmp 68) (.const (.int .i64 3)) t68 (.int .i64 3)) w (pk K) E) w fun t69 w =>
 DoX Tryd.prog (mPick t66 (.bool true) t69) w (pk K) fun t70 w =>
 GDo t70 false (fun E => E t44 w) w fun t72 w =>
 GDo t70 false (fun E => DoX Tryd.prog (mEq .neq 23 (.tmp 72) (.const (.int .i64 2)) t72 (.int .i64 2)) w (pk K) E) w fun t73 w =>
 DoX Tryd.prog (mPick t70 (.bool true) t73) w (pk K) fun t74 w =>
 GDo t74 false (fun E => CallX Tryd.prog 24 #[(.int .i64 30000)] w (pk K) E) w fun t76 w =>
 GDo t74 false (fun E => DoX Tryd.prog (mEq .neq 9 (.tmp 76) (.const (.string ⟨#[51, 46, 48]⟩)) t76 (.string ⟨#[51, 46, 48]⟩)) w (pk K) E) w fun t77 w =>
 DoX Tryd.prog (mPick t74 (.bool true) t77) w (pk K) fun t78 w =>
 GDo t78 false (fun E => CallX Tryd.prog 24 #[(.int .i64 1)] w (pk K) E) w fun t80 w =>
 GDo t78 false (fun E => DoX Tryd.prog (mEq .neq 9 (.tmp 80) (.const (.string ⟨#[48, 46, 48, 48, 48, 49]⟩)) t80 (.string ⟨#[48, 46, 48, 48, 48, 49]⟩)) w (pk K) E) w fun t81 w =>
 DoX Tryd.prog (mPick t78 (.bool true) t81) w (pk K) fun t82 w =>
 GDo t82 false (fun E => CallX Tryd.prog 24 #[(.int .i64 0)] w (pk K) E) w fun t84 w =>
 GDo t82 false (fun E => DoX Tryd.prog (mEq .neq 9 (.tmp 84) (.const (.string ⟨#[48, 46, 48]⟩)) t84 (.string ⟨#[48, 46, 48]⟩)) w (pk K) E) w fun t85 w =>
 DoX Tryd.prog (mPick t82 (.bool true) t85) w (pk K) fun t86 w =>
 IfX t86 (K (.returned (.bool false)) w) (CallX Tryd.prog 20 #[(.int .i64 (-5)), (.int .i64 2)] w (pk K) fun t88 w =>
 DoX Tryd.prog (mExt t88 0) w (pk K) fun t89 w =>
 DoX Tryd.prog (mExt t88 1) w (pk K) fun t90 w =>
 CallX Tryd.prog 28 #[(.int .i64 15000), (.int .i64 15000)] w (pk K) fun t92 w =>
 DoX Tryd.prog (mExt t92 0) w (pk K) fun t93 w =>
 DoX Tryd.prog (mExt t92 1) w (pk K) fun t94 w =>
 CallX Tryd.prog 30 #[(.int .i64 10000), (.int .i64 30000)] w (pk K) fun t96 w =>
 DoX Tryd.prog (mExt t96 0) w (pk K) fun t97 w =>
 DoX Tryd.prog (mExt t96 1) w (pk K) fun t98 w =>
 DoX Tryd.prog (mBuildS 31 4 #[(0, (.int .i64 5000)), (1, (.int .i64 1)), (2, (.int .i64 5000)), (3, (.int .i64 1))]) w (pk K) fun t100 w =>
 CallX Tryd.prog 32 #[t100] w (pk K) fun t101 w =>
 DoX Tryd.prog (mExt t101 0) w (pk K) fun t102 w =>
 DoX Tryd.prog (mExt t101 1) w (pk K) fun t103 w =>
 CallX Tryd.prog 22 #[(.int .i64 20000)] w (pk K) fun t105 w =>
 DoX Tryd.prog (mExt t105 0) w (pk K) fun t106 w =>
 DoX Tryd.prog (mExt t105 1) w (pk K) fun t107 w =>
 DoX Tryd.prog (mBuildS 31 2 #[(0, (.int .i64 3)), (1, (.int .i64 4))]) w (pk K) fun t109 w =>
 CallX Tryd.prog 34 #[t109] w (pk K) fun t110 w =>
 DoX Tryd.prog (mExt t110 0) w (pk K) fun t111 w =>
 DoX Tryd.prog (mExt t110 1) w (pk K) fun t112 w =>
 CallX Tryd.prog 30 #[(.int .i64 1), (.int .i64 0)] w (pk K) fun t114 w =>
 DoX Tryd.prog (mExt t114 0) w (pk K) fun t115 w =>
 DoX Tryd.prog (mExt t114 1) w (pk K) fun t116 w =>
 DoX Tryd.prog (mEq .eql 2 (.tmp 117) (.const (.int .i64 (-2))) t89 (.int .i64 (-2))) w (pk K) fun t118 w =>
 GDo t118 true (fun E => E t90 w) w fun t120 w =>
 GDo t118 true (fun E => DoX Tryd.prog (mEq .eql 23 (.tmp 120) (.const (.int .i64 0)) t120 (.int .i64 0)) w (pk K) E) w fun t121 w =>
 DoX Tryd.prog (mPick t118 t121 (.bool false)) w (pk K) fun t122 w =>
 GDo t122 true (fun E => E t93 w) w fun t124 w =>
 GDo t122 true (fun E => DoX Tryd.prog (mEq .eql 2 (.tmp 124) (.const (.int .i64 22500)) t124 (.int .i64 22500)) w (pk K) E) w fun t125 w =>
 DoX Tryd.prog (mPick t122 t125 (.bool false)) w (pk K) fun t126 w =>
 GDo t126 true (fun E => E t94 w) w fun t128 w =>
 GDo t126 true (fun E => DoX Tryd.prog (mEq .eql 23 (.tmp 128) (.const (.int .i64 0)) t128 (.int .i64 0)) w (pk K) E) w fun t129 w =>
 DoX Tryd.prog (mPick t126 t129 (.bool false)) w (pk K) fun t130 w =>
 GDo t130 true (fun E => E t97 w) w fun t132 w =>
 GDo t130 true (fun E => DoX Tryd.prog (mEq .eql 2 (.tmp 132) (.const (.int .i64 3333)) t132 (.int .i64 3333)) w (pk K) E) w fun t133 w =>
 DoX Tryd.prog (mPick t130 t133 (.bool false)) w (pk K) fun t134 w =>
 GDo t134 true (fun E => E t98 w) w fun t136 w =>
 GDo t134 true (fun E => DoX Tryd.prog (mEq .eql 23 (.tmp 136) (.const (.int .i64 0)) t136 (.int .i64 0)) w (pk K) E) w fun t137 w =>
 DoX Tryd.prog (mPick t134 t137 (.bool false)) w (pk K) fun t138 w =>
 GDo t138 true (fun E => E t102 w) w fun t140 w =>
 GDo t138 true (fun E => DoX Tryd.prog (mEq .eql 2 (.tmp 140) (.const (.int .i64 1)) t140 (.int .i64 1)) w (pk K) E) w fun t141 w =>
 DoX Tryd.prog (mPick t138 t141 (.bool false)) w (pk K) fun t142 w =>
 GDo t142 true (fun E => E t103 w) w fun t144 w =>
 GDo t142 true (fun E => DoX Tryd.prog (mEq .eql 23 (.tmp 144) (.const (.int .i64 0)) t144 (.int .i64 0)) w (pk K) E) w fun t145 w =>
 DoX Tryd.prog (mPick t142 t145 (.bool false)) w (pk K) fun t146 w =>
 GDo t146 true (fun E => E t106 w) w fun t148 w =>
 GDo t146 true (fun E => DoX Tryd.prog (mEq .eql 2 (.tmp 148) (.const (.int .i64 14142)) t148 (.int .i64 14142)) w (pk K) E) w fun t149 w =>
 DoX Tryd.prog (mPick t146 t149 (.bool false)) w (pk K) fun t150 w =>
 GDo t150 true (fun E => E t107 w) w fun t152 w =>
 GDo t150 true (fun E => DoX Tryd.prog (mEq .eql 23 (.tmp 152) (.const (.int .i64 0)) t152 (.int .i64 0)) w (pk K) E) w fun t153 w =>
 DoX Tryd.prog (mPick t150 t153 (.bool false)) w (pk K) fun t154 w =>
 GDo t154 true (fun E => E t111 w) w fun t156 w =>
 GDo t154 true (fun E => DoX Tryd.prog (mEq .eql 2 (.tmp 156) (.const (.int .i64 7)) t156 (.int .i64 7)) w (pk K) E) w fun t157 w =>
 DoX Tryd.prog (mPick t154 t157 (.bool false)) w (pk K) fun t158 w =>
 GDo t158 true (fun E => E t112 w) w fun t160 w =>
 GDo t158 true (fun E => DoX Tryd.prog (mEq .eql 23 (.tmp 160) (.const (.int .i64 0)) t160 (.int .i64 0)) w (pk K) E) w fun t161 w =>
 DoX Tryd.prog (mPick t158 t161 (.bool false)) w (pk K) fun t162 w =>
 GDo t162 true (fun E => E t116 w) w fun t164 w =>
 GDo t162 true (fun E => DoX Tryd.prog (mEq .eql 23 (.tmp 164) (.const (.int .i64 1)) t164 (.int .i64 1)) w (pk K) E) w fun t165 w =>
 DoX Tryd.prog (mPick t162 t165 (.bool false)) w (pk K) fun t166 w =>
 GDo t166 true (fun E => CallX Tryd.prog 26 #[(.int .i64 15000)] w (pk K) E) w fun t168 w =>
 GDo t166 true (fun E => DoX Tryd.prog (mEq .eql 2 (.tmp 168) (.const (.int .i64 2)) t168 (.int .i64 2)) w (pk K) E) w fun t169 w =>
 DoX Tryd.prog (mPick t166 t169 (.bool false)) w (pk K) fun t170 w =>
 K (.returned t170) w)
theorem S_foliantlaw02_lives_eq (w : World) (K : Ending → World → Prop) : wpX Tryd.prog 171 [] [] (bodyOf Tryd.f17) (topQ Tryd.prog [.tmp 0] K) (startX []) [] w = S_foliantlaw02_lives w K := by kernel_rfl
theorem S_foliantlaw02_lives_ok {w : World} {K : Ending → World → Prop} (h : S_foliantlaw02_lives w K) : Calls Tryd.prog 17 #[] w K :=
  calls_of_wpX Tryd.func17 rfl rfl rfl rfl (Eq.mpr (S_foliantlaw02_lives_eq w K) h)

/- foliantlaw02.FixTells -/
def S_foliantlaw02_FixTells (t0 t1 t2 : Value) (w : World) (K : Ending → World → Prop) : Prop :=
 DoX Tryd.prog (mB .len #[9] 3 #[false] #[t0]) w (pk K) fun t20 w =>
 DoX Tryd.prog (mBin .gtr 3 t20 (.int .i64 3000)) w (pk K) fun t21 w =>
 IfX t21 (CallX Tryd.prog 17 #[] w (pk K) fun t22 w =>
 K (.returned t22) w) (CallX Tryd.prog 18 #[t0] w (pk K) fun t25 w =>
 DoX Tryd.prog (mExt t25 0) w (pk K) fun t26 w =>
 DoX Tryd.prog (mExt t25 1) w (pk K) fun t27 w =>
 CallX Tryd.prog 19 #[t0] w (pk K) fun t30 w =>
 DoX Tryd.prog (mExt t30 0) w (pk K) fun t31 w =>
 DoX Tryd.prog (mExt t30 1) w (pk K) fun t32 w =>
 CallX Tryd.prog 20 #[t1, t2] w (pk K) fun t36 w =>
 DoX Tryd.prog (mExt t36 0) w (pk K) fun t37 w =>
 DoX Tryd.prog (mExt t36 1) w (pk K) fun t38 w =>
 CallX Tryd.prog 21 #[t1, t2] w (pk K) fun t42 w =>
 DoX Tryd.prog (mExt t42 0) w (pk K) fun t43 w =>
 DoX Tryd.prog (mExt t42 1) w (pk K) fun t44 w =>
 CallX Tryd.prog 22 #[t1] w (pk K) fun t47 w =>
 DoX Tryd.prog (mExt t47 0) w (pk K) fun t48 w =>
 DoX Tryd.prog (mExt t47 1) w (pk K) fun t49 w =>
 CallX Tryd.prog 23 #[t1] w (pk K) fun t52 w =>
 DoX Tryd.prog (mExt t52 0) w (pk K) fun t53 w =>
 DoX Tryd.prog (mExt t52 1) w (pk K) fun t54 w =>
 DoX Tryd.prog (mEq .eql 2 (.tmp 55) (.tmp 56) t26 t31) w (pk K) fun t57 w =>
 GDo t57 true (fun E => E t27 w) w fun t59 w =>
 GDo t57 true (fun E => E t32 w) w fun t60 w =>
 GDo t57 true (fun E => DoX Tryd.prog (mEq .eql 23 (.tmp 59) (.tmp 60) t59 t60) w (pk K) E) w fun t61 w =>
 DoX Tryd.prog (mPick t57 t61 (.bool false)) w (pk K) fun t62 w =>
 GDo t62 true (fun E => E t37 w) w fun t64 w =>
 GDo t62 true (fun E => E t43 w) w fun t65 w =>
 GDo t62 true (fun E => DoX Tryd.prog (mEq .eql 2 (.tmp 64) (.tmp 65) t64 t65) w (pk K) E) w fun t66 w =>
 DoX Tryd.prog (mPick t62 t66 (.bool false)) w (pk K) fun t67 w =>
 GDo t67 true (fun E => E t38 w) w fun t69 w =>
 GDo t67 true (fun E => E t44 w) w fun t70 w =>
 GDo t67 true (fun E => DoX Tryd.prog (mEq .eql 23 (.tmp 69) (.tmp 70) t69 t70) w (pk K) E) w fun t71 w =>
 DoX Tryd.prog (mPick t67 t71 (.bool false)) w (pk K) fun t72 w =>
 GDo t72 true (fun E => E t48 w) w fun t74 w =>
 GDo t72 true (fun E => E t53 w) w fun t75 w =>
 GDo t72 true (fun E => DoX Tryd.prog (mEq .eql 2 (.tmp 74) (.tmp 75) t74 t75) w (pk K) E) w fun t76 w =>
 DoX Tryd.prog (mPick t72 t76 (.bool false)) w (pk K) fun t77 w =>
 GDo t77 true (fun E => E t49 w) w fun t79 w =>
 GDo t77 true (fun E => E t54 w) w fun t80 w =>
 GDo t77 true (fun E => DoX Tryd.prog (mEq .eql 23 (.tmp 79) (.tmp 80) t79 t80) w (pk K) E) w fun t81 w =>
 DoX Tryd.prog (mPick t77 t81 (.bool false)) w (pk K) fun t82 w =>
 GDo t82 true (fun E => E t1 w) w fun t84 w =>
 GDo t82 true (fun E => CallX Tryd.prog 24 #[t84] w (pk K) E) w fun t85 w =>
 GDo t82 true (fun E => E t1 w) w fun t86 w =>
 GDo t82 true (fun E => CallX Tryd.prog 25 #[t86] w (pk K) E) w fun t87 w =>
 GDo t82 true (fun E => DoX Tryd.prog (mEq .eql 9 (.tmp 85) (.tmp 87) t85 t87) w (pk K) E) w fun t88 w =>
 DoX Tryd.prog (mPick t82 t88 (.bool false)) w (pk K) fun t89 w =>
 GDo t89 true (fun E => E t1 w) w fun t91 w =>
 GDo t89 true (fun E => CallX Tryd.prog 26 #[t91] w (pk K) E) w fun t92 w =>
 GDo t89 true (fun E => E t1 w) w fun t93 w =>
 GDo t89 true (fun E => CallX Tryd.prog 27 #[t93] w (pk K) E) w fun t94 w =>
 GDo t89 true (fun E => DoX Tryd.prog (mEq .eql 2 (.tmp 92) (.tmp 94) t92 t94) w (pk K) E) w fun t95 w =>
 DoX Tryd.prog (mPick t89 t95 (.bool false)) w (pk K) fun t96 w =>
 GDo t96 true (fun E => CallX Tryd.prog 17 #[] w (pk K) E) w fun t98 w =>
 DoX Tryd.prog (mPick t96 t98 (.bool false)) w (pk K) fun t99 w =>
 K (.returned t99) w)
theorem S_foliantlaw02_FixTells_eq (t0 t1 t2 : Value) (w : World) (K : Ending → World → Prop) : wpX Tryd.prog 100 [] [] (bodyOf Tryd.f3) (topQ Tryd.prog [.tmp 6] K) (startX [t0, t1, t2]) [] w = S_foliantlaw02_FixTells t0 t1 t2 w K := by kernel_rfl
theorem S_foliantlaw02_FixTells_ok {t0 t1 t2 : Value} {w : World} {K : Ending → World → Prop} (h : S_foliantlaw02_FixTells t0 t1 t2 w K) : Calls Tryd.prog 3 #[t0, t1, t2] w K :=
  calls_of_wpX Tryd.func3 rfl rfl rfl rfl (Eq.mpr (S_foliantlaw02_FixTells_eq t0 t1 t2 w K) h)

/- foliantlaw02.FixReckons -/
def S_foliantlaw02_FixReckons (t0 t1 t2 : Value) (w : World) (K : Ending → World → Prop) : Prop :=
 DoX Tryd.prog (mB .len #[31] 3 #[false] #[t2]) w (pk K) fun t24 w =>
 DoX Tryd.prog (mBin .gtr 3 t24 (.int .i64 300)) w (pk K) fun t25 w =>
 IfX t25 (CallX Tryd.prog 17 #[] w (pk K) fun t26 w =>
 K (.returned t26) w) (CallX Tryd.prog 28 #[t0, t1] w (pk K) fun t30 w =>
 DoX Tryd.prog (mExt t30 0) w (pk K) fun t31 w =>
 DoX Tryd.prog (mExt t30 1) w (pk K) fun t32 w =>
 CallX Tryd.prog 29 #[t0, t1] w (pk K) fun t36 w =>
 DoX Tryd.prog (mExt t36 0) w (pk K) fun t37 w =>
 DoX Tryd.prog (mExt t36 1) w (pk K) fun t38 w =>
 CallX Tryd.prog 30 #[t0, t1] w (pk K) fun t42 w =>
 DoX Tryd.prog (mExt t42 0) w (pk K) fun t43 w =>
 DoX Tryd.prog (mExt t42 1) w (pk K) fun t44 w =>
 CallX Tryd.prog 31 #[t0, t1] w (pk K) fun t48 w =>
 DoX Tryd.prog (mExt t48 0) w (pk K) fun t49 w =>
 DoX Tryd.prog (mExt t48 1) w (pk K) fun t50 w =>
 CallX Tryd.prog 32 #[t2] w (pk K) fun t53 w =>
 DoX Tryd.prog (mExt t53 0) w (pk K) fun t54 w =>
 DoX Tryd.prog (mExt t53 1) w (pk K) fun t55 w =>
 CallX Tryd.prog 33 #[t2] w (pk K) fun t58 w =>
 DoX Tryd.prog (mExt t58 0) w (pk K) fun t59 w =>
 DoX Tryd.prog (mExt t58 1) w (pk K) fun t60 w =>
 CallX Tryd.prog 34 #[t2] w (pk K) fun t63 w =>
 DoX Tryd.prog (mExt t63 0) w (pk K) fun t64 w =>
 DoX Tryd.prog (mExt t63 1) w (pk K) fun t65 w =>
 CallX Tryd.prog 35 #[t2] w (pk K) fun t68 w =>
 DoX Tryd.prog (mExt t68 0) w (pk K) fun t69 w =>
 DoX Tryd.prog (mExt t68 1) w (pk K) fun t70 w =>
 DoX Tryd.prog (mEq .eql 2 (.tmp 71) (.tmp 72) t31 t37) w (pk K) fun t73 w =>
 GDo t73 true (fun E => E t32 w) w fun t75 w =>
 GDo t73 true (fun E => E t38 w) w fun t76 w =>
 GDo t73 true (fun E => DoX Tryd.prog (mEq .eql 23 (.tmp 75) (.tmp 76) t75 t76) w (pk K) E) w fun t77 w =>
 DoX Tryd.prog (mPick t73 t77 (.bool false)) w (pk K) fun t78 w =>
 GDo t78 true (fun E => E t43 w) w fun t80 w =>
 GDo t78 true (fun E => E t49 w) w fun t81 w =>
 GDo t78 true (fun E => DoX Tryd.prog (mEq .eql 2 (.tmp 80) (.tmp 81) t80 t81) w (pk K) E) w fun t82 w =>
 DoX Tryd.prog (mPick t78 t82 (.bool false)) w (pk K) fun t83 w =>
 GDo t83 true (fun E => E t44 w) w fun t85 w =>
 GDo t83 true (fun E => E t50 w) w fun t86 w =>
 GDo t83 true (fun E => DoX Tryd.prog (mEq .eql 23 (.tmp 85) (.tmp 86) t85 t86) w (pk K) E) w fun t87 w =>
 DoX Tryd.prog (mPick t83 t87 (.bool false)) w (pk K) fun t88 w =>
 GDo t88 true (fun E => E t54 w) w fun t90 w =>
 GDo t88 true (fun E => E t59 w) w fun t91 w =>
 GDo t88 true (fun E => DoX Tryd.prog (mEq .eql 2 (.tmp 90) (.tmp 91) t90 t91) w (pk K) E) w fun t92 w =>
 DoX Tryd.prog (mPick t88 t92 (.bool false)) w (pk K) fun t93 w =>
 GDo t93 true (fun E => E t55 w) w fun t95 w =>
 GDo t93 true (fun E => E t60 w) w fun t96 w =>
 GDo t93 true (fun E => DoX Tryd.prog (mEq .eql 23 (.tmp 95) (.tmp 96) t95 t96) w (pk K) E) w fun t97 w =>
 DoX Tryd.prog (mPick t93 t97 (.bool false)) w (pk K) fun t98 w =>
 GDo t98 true (fun E => E t64 w) w fun t100 w =>
 GDo t98 true (fun E => E t69 w) w fun t101 w =>
 GDo t98 true (fun E => DoX Tryd.prog (mEq .eql 2 (.tmp 100) (.tmp 101) t100 t101) w (pk K) E) w fun t102 w =>
 DoX Tryd.prog (mPick t98 t102 (.bool false)) w (pk K) fun t103 w =>
 GDo t103 true (fun E => E t65 w) w fun t105 w =>
 GDo t103 true (fun E => E t70 w) w fun t106 w =>
 GDo t103 true (fun E => DoX Tryd.prog (mEq .eql 23 (.tmp 105) (.tmp 106) t105 t106) w (pk K) E) w fun t107 w =>
 DoX Tryd.prog (mPick t103 t107 (.bool false)) w (pk K) fun t108 w =>
 GDo t108 true (fun E => CallX Tryd.prog 17 #[] w (pk K) E) w fun t110 w =>
 DoX Tryd.prog (mPick t108 t110 (.bool false)) w (pk K) fun t111 w =>
 K (.returned t111) w)
theorem S_foliantlaw02_FixReckons_eq (t0 t1 t2 : Value) (w : World) (K : Ending → World → Prop) : wpX Tryd.prog 112 [] [] (bodyOf Tryd.f4) (topQ Tryd.prog [.tmp 6] K) (startX [t0, t1, t2]) [] w = S_foliantlaw02_FixReckons t0 t1 t2 w K := by kernel_rfl
theorem S_foliantlaw02_FixReckons_ok {t0 t1 t2 : Value} {w : World} {K : Ending → World → Prop} (h : S_foliantlaw02_FixReckons t0 t1 t2 w K) : Calls Tryd.prog 4 #[t0, t1, t2] w K :=
  calls_of_wpX Tryd.func4 rfl rfl rfl rfl (Eq.mpr (S_foliantlaw02_FixReckons_eq t0 t1 t2 w K) h)

/- foliantlaw02.FixBack -/
def S_foliantlaw02_FixBack_0 (t0 t4 t5 t6 t7 : Value) (w : World) (K : Ending → World → Prop) : Prop :=
 DoX Tryd.prog (mEq .eql 2 (.tmp 49) (.tmp 50) t4 t0) w (pk K) fun t51 w =>
 GDo t51 true (fun E => E t5 w) w fun t53 w =>
 GDo t51 true (fun E => DoX Tryd.prog (mEq .eql 23 (.tmp 53) (.const (.int .i64 0)) t53 (.int .i64 0)) w (pk K) E) w fun t54 w =>
 DoX Tryd.prog (mPick t51 t54 (.bool false)) w (pk K) fun t55 w =>
 GDo t55 true (fun E => E t6 w) w fun t57 w =>
 GDo t55 true (fun E => E t0 w) w fun t58 w =>
 GDo t55 true (fun E => DoX Tryd.prog (mEq .eql 2 (.tmp 57) (.tmp 58) t57 t58) w (pk K) E) w fun t59 w =>
 DoX Tryd.prog (mPick t55 t59 (.bool false)) w (pk K) fun t60 w =>
 GDo t60 true (fun E => E t7 w) w fun t62 w =>
 GDo t60 true (fun E => DoX Tryd.prog (mEq .eql 23 (.tmp 62) (.const (.int .i64 0)) t62 (.int .i64 0)) w (pk K) E) w fun t63 w =>
 DoX Tryd.prog (mPick t60 t63 (.bool false)) w (pk K) fun t64 w =>
 GDo t64 true (fun E => CallX Tryd.prog 17 #[] w (pk K) E) w fun t66 w =>
 DoX Tryd.prog (mPick t64 t66 (.bool false)) w (pk K) fun t67 w =>
 K (.returned t67) w
def S_foliantlaw02_FixBack (t0 : Value) (w : World) (K : Ending → World → Prop) : Prop :=
 CallX Tryd.prog 24 #[t0] w (pk K) fun t11 w =>
 DoX Tryd.prog (mBin .lss 2 t0 (.int .i64 (-1073741824))) w (pk K) fun t13 w =>
 GDo t13 false (fun E => E t0 w) w fun t15 w =>
 GDo t13 false (fun E => DoX Tryd.prog (mBin .gtr 2 t15 (.int .i64 1073741824)) w (pk K) E) w fun t16 w =>
 DoX Tryd.prog (mPick t13 (.bool true) t16) w (pk K) fun t17 w =>
 IfX t17 (DoX Tryd.prog (mEq .eql 9 (.tmp 18) (.const (.string ⟨#[]⟩)) t11 (.string ⟨#[]⟩)) w (pk K) fun t19 w =>
 GDo t19 true (fun E => CallX Tryd.prog 17 #[] w (pk K) E) w fun t21 w =>
 DoX Tryd.prog (mPick t19 t21 (.bool false)) w (pk K) fun t22 w =>
 K (.returned t22) w) (CallX Tryd.prog 18 #[t11] w (pk K) fun t25 w =>
 DoX Tryd.prog (mExt t25 0) w (pk K) fun t26 w =>
 DoX Tryd.prog (mExt t25 1) w (pk K) fun t27 w =>
 DoX Tryd.prog (mBin .add 9 t11 (.string ⟨#[48, 48, 48]⟩)) w (pk K) fun t30 w =>
 CallX Tryd.prog 18 #[t30] w (pk K) fun t31 w =>
 DoX Tryd.prog (mExt t31 0) w (pk K) fun t32 w =>
 DoX Tryd.prog (mExt t31 1) w (pk K) fun t33 w =>
 JoinX (fun J1 =>
 DoX Tryd.prog (mBin .geq 2 t0 (.int .i64 0)) w (pk K) fun t35 w =>
 IfX t35 (DoX Tryd.prog (mBin .add 9 (.string ⟨#[43, 48]⟩) t11) w (pk K) fun t38 w =>
 CallX Tryd.prog 18 #[t38] w (pk K) fun t39 w =>
 DoX Tryd.prog (mExt t39 0) w (pk K) fun t40 w =>
 DoX Tryd.prog (mExt t39 1) w (pk K) fun t41 w =>
 DoX Tryd.prog (mEq .neq 2 (.tmp 42) (.tmp 43) t40 t0) w (pk K) fun t44 w =>
 GDo t44 false (fun E => E t41 w) w fun t46 w =>
 GDo t44 false (fun E => DoX Tryd.prog (mEq .neq 23 (.tmp 46) (.const (.int .i64 0)) t46 (.int .i64 0)) w (pk K) E) w fun t47 w =>
 DoX Tryd.prog (mPick t44 (.bool true) t47) w (pk K) fun t48 w =>
 IfX t48 (K (.returned (.bool false)) w) (J1 [] w)) (J1 [] w)) (fun vs1 w => ∀ _ : Sg, S_foliantlaw02_FixBack_0 t0 t26 t27 t32 t33 w K))
theorem S_foliantlaw02_FixBack_eq (t0 : Value) (w : World) (K : Ending → World → Prop) : wpX Tryd.prog 68 [(10, [])] [] (bodyOf Tryd.f5) (topQ Tryd.prog [.tmp 2] K) (startX [t0]) [] w = S_foliantlaw02_FixBack t0 w K := by kernel_rfl
theorem S_foliantlaw02_FixBack_ok {t0 : Value} {w : World} {K : Ending → World → Prop} (h : S_foliantlaw02_FixBack t0 w K) : Calls Tryd.prog 5 #[t0] w K :=
  calls_of_wpX Tryd.func5 rfl rfl rfl rfl (Eq.mpr (S_foliantlaw02_FixBack_eq t0 w K) h)

/- foliantlaw02.FixNear -/
def S_foliantlaw02_FixNear (t0 t1 : Value) (w : World) (K : Ending → World → Prop) : Prop :=
 DoX Tryd.prog (mBin .lss 2 t0 (.int .i64 (-1073741824))) w (pk K) fun t8 w =>
 GDo t8 false (fun E => E t0 w) w fun t10 w =>
 GDo t8 false (fun E => DoX Tryd.prog (mBin .gtr 2 t10 (.int .i64 1073741824)) w (pk K) E) w fun t11 w =>
 DoX Tryd.prog (mPick t8 (.bool true) t11) w (pk K) fun t12 w =>
 GDo t12 false (fun E => E t1 w) w fun t14 w =>
 GDo t12 false (fun E => DoX Tryd.prog (mBin .lss 2 t14 (.int .i64 1)) w (pk K) E) w fun t15 w =>
 DoX Tryd.prog (mPick t12 (.bool true) t15) w (pk K) fun t16 w =>
 GDo t16 false (fun E => E t1 w) w fun t18 w =>
 GDo t16 false (fun E => DoX Tryd.prog (mBin .gtr 2 t18 (.int .i64 1073741824)) w (pk K) E) w fun t19 w =>
 DoX Tryd.prog (mPick t16 (.bool true) t19) w (pk K) fun t20 w =>
 IfX t20 (CallX Tryd.prog 17 #[] w (pk K) fun t21 w =>
 K (.returned t21) w) (CallX Tryd.prog 20 #[t0, t1] w (pk K) fun t25 w =>
 DoX Tryd.prog (mExt t25 0) w (pk K) fun t26 w =>
 DoX Tryd.prog (mExt t25 1) w (pk K) fun t27 w =>
 DoX Tryd.prog (mEq .eql 23 (.tmp 28) (.const (.int .i64 0)) t27 (.int .i64 0)) w (pk K) fun t29 w =>
 GDo t29 true (fun E => E t26 w) w fun t31 w =>
 GDo t29 true (fun E => DoX Tryd.prog (mBin .geq 2 t31 (.int .i64 (-1073741824))) w (pk K) E) w fun t32 w =>
 DoX Tryd.prog (mPick t29 t32 (.bool false)) w (pk K) fun t33 w =>
 GDo t33 true (fun E => E t26 w) w fun t35 w =>
 GDo t33 true (fun E => DoX Tryd.prog (mBin .leq 2 t35 (.int .i64 1073741824)) w (pk K) E) w fun t36 w =>
 DoX Tryd.prog (mPick t33 t36 (.bool false)) w (pk K) fun t37 w =>
 GDo t37 true (fun E => E t1 w) w fun t39 w =>
 GDo t37 true (fun E => E t26 w) w fun t40 w =>
 GDo t37 true (fun E => DoX Tryd.prog (mBin .mul 2 (.int .i64 2) t40) w (pk K) E) w fun t41 w =>
 GDo t37 true (fun E => DoX Tryd.prog (mBin .sub 2 t41 (.int .i64 1)) w (pk K) E) w fun t42 w =>
 GDo t37 true (fun E => DoX Tryd.prog (mBin .mul 2 t39 t42) w (pk K) E) w fun t43 w =>
 GDo t37 true (fun E => E t0 w) w fun t44 w =>
 GDo t37 true (fun E => DoX Tryd.prog (mBin .mul 2 (.int .i64 2) t44) w (pk K) E) w fun t45 w =>
 GDo t37 true (fun E => DoX Tryd.prog (mBin .leq 2 t43 t45) w (pk K) E) w fun t46 w =>
 DoX Tryd.prog (mPick t37 t46 (.bool false)) w (pk K) fun t47 w =>
 GDo t47 true (fun E => E t0 w) w fun t49 w =>
 GDo t47 true (fun E => DoX Tryd.prog (mBin .mul 2 (.int .i64 2) t49) w (pk K) E) w fun t50 w =>
 GDo t47 true (fun E => E t1 w) w fun t51 w =>
 GDo t47 true (fun E => E t26 w) w fun t52 w =>
 GDo t47 true (fun E => DoX Tryd.prog (mBin .mul 2 (.int .i64 2) t52) w (pk K) E) w fun t53 w =>
 GDo t47 true (fun E => DoX Tryd.prog (mBin .add 2 t53 (.int .i64 1)) w (pk K) E) w fun t54 w =>
 GDo t47 true (fun E => DoX Tryd.prog (mBin .mul 2 t51 t54) w (pk K) E) w fun t55 w =>
 GDo t47 true (fun E => DoX Tryd.prog (mBin .lss 2 t50 t55) w (pk K) E) w fun t56 w =>
 DoX Tryd.prog (mPick t47 t56 (.bool false)) w (pk K) fun t57 w =>
 GDo t57 true (fun E => CallX Tryd.prog 17 #[] w (pk K) E) w fun t59 w =>
 DoX Tryd.prog (mPick t57 t59 (.bool false)) w (pk K) fun t60 w =>
 K (.returned t60) w)
theorem S_foliantlaw02_FixNear_eq (t0 t1 : Value) (w : World) (K : Ending → World → Prop) : wpX Tryd.prog 61 [] [] (bodyOf Tryd.f6) (topQ Tryd.prog [.tmp 4] K) (startX [t0, t1]) [] w = S_foliantlaw02_FixNear t0 t1 w K := by kernel_rfl
theorem S_foliantlaw02_FixNear_ok {t0 t1 : Value} {w : World} {K : Ending → World → Prop} (h : S_foliantlaw02_FixNear t0 t1 w K) : Calls Tryd.prog 6 #[t0, t1] w K :=
  calls_of_wpX Tryd.func6 rfl rfl rfl rfl (Eq.mpr (S_foliantlaw02_FixNear_eq t0 t1 w K) h)

/- foliantlaw02.FixTurns -/
def S_foliantlaw02_FixTurns (t0 t1 t2 : Value) (w : World) (K : Ending → World → Prop) : Prop :=
 CallX Tryd.prog 28 #[t0, t1] w (pk K) fun t28 w =>
 DoX Tryd.prog (mExt t28 0) w (pk K) fun t29 w =>
 DoX Tryd.prog (mExt t28 1) w (pk K) fun t30 w =>
 CallX Tryd.prog 28 #[t1, t0] w (pk K) fun t34 w =>
 DoX Tryd.prog (mExt t34 0) w (pk K) fun t35 w =>
 DoX Tryd.prog (mExt t34 1) w (pk K) fun t36 w =>
 DoX Tryd.prog (mBuildS 31 4 #[(0, t0), (1, t1), (2, t2), (3, t0)]) w (pk K) fun t42 w =>
 CallX Tryd.prog 32 #[t42] w (pk K) fun t43 w =>
 DoX Tryd.prog (mExt t43 0) w (pk K) fun t44 w =>
 DoX Tryd.prog (mExt t43 1) w (pk K) fun t45 w =>
 DoX Tryd.prog (mBuildS 31 4 #[(0, t0), (1, t2), (2, t1), (3, t0)]) w (pk K) fun t51 w =>
 CallX Tryd.prog 32 #[t51] w (pk K) fun t52 w =>
 DoX Tryd.prog (mExt t52 0) w (pk K) fun t53 w =>
 DoX Tryd.prog (mExt t52 1) w (pk K) fun t54 w =>
 DoX Tryd.prog (mBuildS 31 3 #[(0, t0), (1, t1), (2, t2)]) w (pk K) fun t59 w =>
 CallX Tryd.prog 34 #[t59] w (pk K) fun t60 w =>
 DoX Tryd.prog (mExt t60 0) w (pk K) fun t61 w =>
 DoX Tryd.prog (mExt t60 1) w (pk K) fun t62 w =>
 DoX Tryd.prog (mBuildS 31 3 #[(0, t2), (1, t1), (2, t0)]) w (pk K) fun t67 w =>
 CallX Tryd.prog 34 #[t67] w (pk K) fun t68 w =>
 DoX Tryd.prog (mExt t68 0) w (pk K) fun t69 w =>
 DoX Tryd.prog (mExt t68 1) w (pk K) fun t70 w =>
 DoX Tryd.prog (mEq .neq 2 (.tmp 71) (.tmp 72) t29 t35) w (pk K) fun t73 w =>
 GDo t73 false (fun E => E t30 w) w fun t75 w =>
 GDo t73 false (fun E => E t36 w) w fun t76 w =>
 GDo t73 false (fun E => DoX Tryd.prog (mEq .neq 23 (.tmp 75) (.tmp 76) t75 t76) w (pk K) E) w fun t77 w =>
 DoX Tryd.prog (mPick t73 (.bool true) t77) w (pk K) fun t78 w =>
 GDo t78 false (fun E => E t44 w) w fun t80 w =>
 GDo t78 false (fun E => E t53 w) w fun t81 w =>
 GDo t78 false (fun E => DoX Tryd.prog (mEq .neq 2 (.tmp 80) (.tmp 81) t80 t81) w (pk K) E) w fun t82 w =>
 DoX Tryd.prog (mPick t78 (.bool true) t82) w (pk K) fun t83 w =>
 GDo t83 false (fun E => E t45 w) w fun t85 w =>
 GDo t83 false (fun E => E t54 w) w fun t86 w =>
 GDo t83 false (fun E => DoX Tryd.prog (mEq .neq 23 (.tmp 85) (.tmp 86) t85 t86) w (pk K) E) w fun t87 w =>
 DoX Tryd.prog (mPick t83 (.bool true) t87) w (pk K) fun t88 w =>
 GDo t88 false (fun E => E t61 w) w fun t90 w =>
 GDo t88 false (fun E => E t69 w) w fun t91 w =>
 GDo t88 false (fun E => DoX Tryd.prog (mEq .neq 2 (.tmp 90) (.tmp 91) t90 t91) w (pk K) E) w fun t92 w =>
 DoX Tryd.prog (mPick t88 (.bool true) t92) w (pk K) fun t93 w =>
 GDo t93 false (fun E => E t62 w) w fun t95 w =>
 GDo t93 false (fun E => E t70 w) w fun t96 w =>
 GDo t93 false (fun E => DoX Tryd.prog (mEq .neq 23 (.tmp 95) (.tmp 96) t95 t96) w (pk K) E) w fun t97 w =>
 DoX Tryd.prog (mPick t93 (.bool true) t97) w (pk K) fun t98 w =>
 IfX t98 (K (.returned (.bool false)) w) (DoX Tryd.prog (mBin .lss 2 t0 (.int .i64 (-1073741824))) w (pk K) fun t100 w =>
 GDo t100 false (fun E => E t0 w) w fun t102 w =>
 GDo t100 false (fun E => DoX Tryd.prog (mBin .gtr 2 t102 (.int .i64 1073741824)) w (pk K) E) w fun t103 w =>
 DoX Tryd.prog (mPick t100 (.bool true) t103) w (pk K) fun t104 w =>
 IfX t104 (DoX Tryd.prog (mEq .eql 23 (.tmp 105) (.const (.int .i64 2)) t30 (.int .i64 2)) w (pk K) fun t106 w =>
 GDo t106 true (fun E => CallX Tryd.prog 17 #[] w (pk K) E) w fun t108 w =>
 DoX Tryd.prog (mPick t106 t108 (.bool false)) w (pk K) fun t109 w =>
 K (.returned t109) w) (CallX Tryd.prog 28 #[t0, (.int .i64 10000)] w (pk K) fun t112 w =>
 DoX Tryd.prog (mExt t112 0) w (pk K) fun t113 w =>
 DoX Tryd.prog (mExt t112 1) w (pk K) fun t114 w =>
 CallX Tryd.prog 30 #[t0, (.int .i64 10000)] w (pk K) fun t117 w =>
 DoX Tryd.prog (mExt t117 0) w (pk K) fun t118 w =>
 DoX Tryd.prog (mExt t117 1) w (pk K) fun t119 w =>
 DoX Tryd.prog (mEq .neq 2 (.tmp 120) (.tmp 121) t113 t0) w (pk K) fun t122 w =>
 GDo t122 false (fun E => E t118 w) w fun t124 w =>
 GDo t122 false (fun E => E t0 w) w fun t125 w =>
 GDo t122 false (fun E => DoX Tryd.prog (mEq .neq 2 (.tmp 124) (.tmp 125) t124 t125) w (pk K) E) w fun t126 w =>
 DoX Tryd.prog (mPick t122 (.bool true) t126) w (pk K) fun t127 w =>
 GDo t127 false (fun E => E t114 w) w fun t129 w =>
 GDo t127 false (fun E => DoX Tryd.prog (mEq .neq 23 (.tmp 129) (.const (.int .i64 0)) t129 (.int .i64 0)) w (pk K) E) w fun t130 w =>
 DoX Tryd.prog (mPick t127 (.bool true) t130) w (pk K) fun t131 w =>
 GDo t131 false (fun E => E t119 w) w fun t133 w =>
 GDo t131 false (fun E => DoX Tryd.prog (mEq .neq 23 (.tmp 133) (.const (.int .i64 0)) t133 (.int .i64 0)) w (pk K) E) w fun t134 w =>
 DoX Tryd.prog (mPick t131 (.bool true) t134) w (pk K) fun t135 w =>
 IfX t135 (K (.returned (.bool false)) w) (CallX Tryd.prog 22 #[t0] w (pk K) fun t138 w =>
 DoX Tryd.prog (mExt t138 0) w (pk K) fun t139 w =>
 DoX Tryd.prog (mExt t138 1) w (pk K) fun t140 w =>
 DoX Tryd.prog (mBin .lss 2 t0 (.int .i64 0)) w (pk K) fun t142 w =>
 IfX t142 (DoX Tryd.prog (mEq .eql 23 (.tmp 143) (.const (.int .i64 1)) t140 (.int .i64 1)) w (pk K) fun t144 w =>
 GDo t144 true (fun E => CallX Tryd.prog 17 #[] w (pk K) E) w fun t146 w =>
 DoX Tryd.prog (mPick t144 t146 (.bool false)) w (pk K) fun t147 w =>
 K (.returned t147) w) (DoX Tryd.prog (mEq .eql 23 (.tmp 148) (.const (.int .i64 0)) t140 (.int .i64 0)) w (pk K) fun t149 w =>
 GDo t149 true (fun E => E t139 w) w fun t151 w =>
 GDo t149 true (fun E => DoX Tryd.prog (mBin .geq 2 t151 (.int .i64 0)) w (pk K) E) w fun t152 w =>
 DoX Tryd.prog (mPick t149 t152 (.bool false)) w (pk K) fun t153 w =>
 GDo t153 true (fun E => E t139 w) w fun t155 w =>
 GDo t153 true (fun E => DoX Tryd.prog (mBin .lss 2 t155 (.int .i64 1073741824)) w (pk K) E) w fun t156 w =>
 DoX Tryd.prog (mPick t153 t156 (.bool false)) w (pk K) fun t157 w =>
 GDo t157 true (fun E => E t139 w) w fun t159 w =>
 GDo t157 true (fun E => E t139 w) w fun t160 w =>
 GDo t157 true (fun E => DoX Tryd.prog (mBin .mul 2 t159 t160) w (pk K) E) w fun t161 w =>
 GDo t157 true (fun E => E t0 w) w fun t162 w =>
 GDo t157 true (fun E => DoX Tryd.prog (mBin .mul 2 t162 (.int .i64 10000)) w (pk K) E) w fun t163 w =>
 GDo t157 true (fun E => DoX Tryd.prog (mBin .leq 2 t161 t163) w (pk K) E) w fun t164 w =>
 DoX Tryd.prog (mPick t157 t164 (.bool false)) w (pk K) fun t165 w =>
 GDo t165 true (fun E => E t139 w) w fun t167 w =>
 GDo t165 true (fun E => DoX Tryd.prog (mBin .add 2 t167 (.int .i64 1)) w (pk K) E) w fun t168 w =>
 GDo t165 true (fun E => E t139 w) w fun t169 w =>
 GDo t165 true (fun E => DoX Tryd.prog (mBin .add 2 t169 (.int .i64 1)) w (pk K) E) w fun t170 w =>
 GDo t165 true (fun E => DoX Tryd.prog (mBin .mul 2 t168 t170) w (pk K) E) w fun t171 w =>
 GDo t165 true (fun E => E t0 w) w fun t172 w =>
 GDo t165 true (fun E => DoX Tryd.prog (mBin .mul 2 t172 (.int .i64 10000)) w (pk K) E) w fun t173 w =>
 GDo t165 true (fun E => DoX Tryd.prog (mBin .gtr 2 t171 t173) w (pk K) E) w fun t174 w =>
 DoX Tryd.prog (mPick t165 t174 (.bool false)) w (pk K) fun t175 w =>
 GDo t175 true (fun E => CallX Tryd.prog 17 #[] w (pk K) E) w fun t177 w =>
 DoX Tryd.prog (mPick t175 t177 (.bool false)) w (pk K) fun t178 w =>
 K (.returned t178) w))))
theorem S_foliantlaw02_FixTurns_eq (t0 t1 t2 : Value) (w : World) (K : Ending → World → Prop) : wpX Tryd.prog 179 [] [] (bodyOf Tryd.f7) (topQ Tryd.prog [.tmp 6] K) (startX [t0, t1, t2]) [] w = S_foliantlaw02_FixTurns t0 t1 t2 w K := by kernel_rfl
theorem S_foliantlaw02_FixTurns_ok {t0 t1 t2 : Value} {w : World} {K : Ending → World → Prop} (h : S_foliantlaw02_FixTurns t0 t1 t2 w K) : Calls Tryd.prog 7 #[t0, t1, t2] w K :=
  calls_of_wpX Tryd.func7 rfl rfl rfl rfl (Eq.mpr (S_foliantlaw02_FixTurns_eq t0 t1 t2 w K) h)

end Go.Proofs.YtfnpfbgnhncgpaaDoor
