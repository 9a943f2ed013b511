/- Code in continuation form, by program (gen.py): 4 functions. -/
import Derived.Test.YtfnpfbgnhncgpaaDoorEngM
import Derived.Test.YtfnpfbgnhncgpaaDoorRows
namespace Go.Proofs.YtfnpfbgnhncgpaaDoor
set_option linter.unusedVariables false
set_option linter.unusedSimpArgs false
set_option linter.defProp false
set_option linter.unusedVariables false
set_option maxRecDepth 20000
open Eng

/- foliantlaw04.lives -/
def S_foliantlaw04_lives (w : World) (K : Ending → World → Prop) : Prop :=
 CallX Tryd.prog 37 #[(.int .i64 (-7))] w (pk K) fun t20 w =>
 DoX Tryd.prog (mExt t20 0) w (pk K) fun t21 w =>
 DoX Tryd.prog (mExt t20 1) w (pk K) fun t22 w =>
 CallX Tryd.prog 37 #[(.int .i64 2147483648)] w (pk K) fun t24 w =>
 DoX Tryd.prog (mExt t24 0) w (pk K) fun t25 w =>
 DoX Tryd.prog (mExt t24 1) w (pk K) fun t26 w =>
 CallX Tryd.prog 39 #[(.int .i64 (-2500))] w (pk K) fun t28 w =>
 DoX Tryd.prog (mExt t28 0) w (pk K) fun t29 w =>
 DoX Tryd.prog (mExt t28 1) w (pk K) fun t30 w =>
 CallX Tryd.prog 39 #[(.int .i64 1073741825)] w (pk K) fun t32 w =>
 DoX Tryd.prog (mExt t32 0) w (pk K) fun t33 w =>
 DoX Tryd.prog (mExt t32 1) w (pk K) fun t34 w =>
 CallX Tryd.prog 41 #[(.string ⟨#[97, 40, 98, 92, 10]⟩)] w (pk K) fun t36 w =>
 DoX Tryd.prog (mExt t36 0) w (pk K) fun t37 w =>
 DoX Tryd.prog (mExt t36 1) w (pk K) fun t38 w =>
 CallX Tryd.prog 43 #[(.string ⟨#[97, 98]⟩)] w (pk K) fun t40 w =>
 DoX Tryd.prog (mExt t40 0) w (pk K) fun t41 w =>
 DoX Tryd.prog (mExt t40 1) w (pk K) fun t42 w =>
 CallX Tryd.prog 45 #[(.string ⟨#[65, 32, 66, 35]⟩)] w (pk K) fun t44 w =>
 DoX Tryd.prog (mExt t44 0) w (pk K) fun t45 w =>
 DoX Tryd.prog (mExt t44 1) w (pk K) fun t46 w =>
 CallX Tryd.prog 45 #[(.string ⟨#[97, 0]⟩)] w (pk K) fun t48 w =>
 DoX Tryd.prog (mExt t48 0) w (pk K) fun t49 w =>
 DoX Tryd.prog (mExt t48 1) w (pk K) fun t50 w =>
 CallX Tryd.prog 45 #[(.string ⟨#[]⟩)] w (pk K) fun t52 w =>
 DoX Tryd.prog (mExt t52 0) w (pk K) fun t53 w =>
 DoX Tryd.prog (mExt t52 1) w (pk K) fun t54 w =>
 DoX Tryd.prog (mEq .eql 9 (.tmp 55) (.const (.string ⟨#[45, 55]⟩)) t21 (.string ⟨#[45, 55]⟩)) w (pk K) fun t56 w =>
 GDo t56 true (fun E => E t22 w) w fun t58 w =>
 GDo t56 true (fun E => DoX Tryd.prog (mEq .eql 23 (.tmp 58) (.const (.int .i64 0)) t58 (.int .i64 0)) w (pk K) E) w fun t59 w =>
 DoX Tryd.prog (mPick t56 t59 (.bool false)) w (pk K) fun t60 w =>
 GDo t60 true (fun E => E t26 w) w fun t62 w =>
 GDo t60 true (fun E => DoX Tryd.prog (mEq .eql 23 (.tmp 62) (.const (.int .i64 2)) t62 (.int .i64 2)) w (pk K) E) w fun t63 w =>
 DoX Tryd.prog (mPick t60 t63 (.bool false)) w (pk K) fun t64 w =>
 GDo t64 true (fun E => E t29 w) w fun t66 w =>
 GDo t64 true (fun E => DoX Tryd.prog (mEq .eql 9 (.tmp 66) (.const (.string ⟨#[45, 48, 46, 50, 53]⟩)) t66 (.string ⟨#[45, 48, 46, 50, 53]⟩)) w (pk K) E) w fun t67 w =>
 DoX Tryd.prog (mPick t64 t67 (.bool false)) w (pk K) fun t68 w =>
 GDo t68 true (fun E => E t30 w) w fun t70 w =>
 GDo t68 true (fun E => DoX Tryd.prog (mEq .eql 23 (.tmp 70) (.const (.int .i64 0)) t70 (.int .i64 0)) w (pk K) E) w fun t71 w =>
 DoX Tryd.prog (mPick t68 t71 (.bool false)) w (pk K) fun t72 w =>
 GDo t72 true (fun E => E t34 w) w fun t74 w =>
 GDo t72 true (fun E => DoX Tryd.prog (mEq .eql 23 (.tmp 74) (.const (.int .i64 2)) t74 (.int .i64 2)) w (pk K) E) w fun t75 w =>
 DoX Tryd.prog (mPick t72 t75 (.bool false)) w (pk K) fun t76 w =>
 GDo t76 true (fun E => E t37 w) w fun t78 w =>
 GDo t76 true (fun E => DoX Tryd.prog (mEq .eql 9 (.tmp 78) (.const (.string ⟨#[40, 97, 92, 40, 98, 92, 92, 92, 48, 49, 50, 41]⟩)) t78 (.string ⟨#[40, 97, 92, 40, 98, 92, 92, 92, 48, 49, 50, 41]⟩)) w (pk K) E) w fun t79 w =>
 DoX Tryd.prog (mPick t76 t79 (.bool false)) w (pk K) fun t80 w =>
 GDo t80 true (fun E => E t38 w) w fun t82 w =>
 GDo t80 true (fun E => DoX Tryd.prog (mEq .eql 23 (.tmp 82) (.const (.int .i64 0)) t82 (.int .i64 0)) w (pk K) E) w fun t83 w =>
 DoX Tryd.prog (mPick t80 t83 (.bool false)) w (pk K) fun t84 w =>
 GDo t84 true (fun E => E t41 w) w fun t86 w =>
 GDo t84 true (fun E => DoX Tryd.prog (mEq .eql 9 (.tmp 86) (.const (.string ⟨#[60, 54, 49, 54, 50, 62]⟩)) t86 (.string ⟨#[60, 54, 49, 54, 50, 62]⟩)) w (pk K) E) w fun t87 w =>
 DoX Tryd.prog (mPick t84 t87 (.bool false)) w (pk K) fun t88 w =>
 GDo t88 true (fun E => E t42 w) w fun t90 w =>
 GDo t88 true (fun E => DoX Tryd.prog (mEq .eql 23 (.tmp 90) (.const (.int .i64 0)) t90 (.int .i64 0)) w (pk K) E) w fun t91 w =>
 DoX Tryd.prog (mPick t88 t91 (.bool false)) w (pk K) fun t92 w =>
 GDo t92 true (fun E => E t45 w) w fun t94 w =>
 GDo t92 true (fun E => DoX Tryd.prog (mEq .eql 9 (.tmp 94) (.const (.string ⟨#[47, 65, 35, 50, 48, 66, 35, 50, 51]⟩)) t94 (.string ⟨#[47, 65, 35, 50, 48, 66, 35, 50, 51]⟩)) w (pk K) E) w fun t95 w =>
 DoX Tryd.prog (mPick t92 t95 (.bool false)) w (pk K) fun t96 w =>
 GDo t96 true (fun E => E t46 w) w fun t98 w =>
 GDo t96 true (fun E => DoX Tryd.prog (mEq .eql 23 (.tmp 98) (.const (.int .i64 0)) t98 (.int .i64 0)) w (pk K) E) w fun t99 w =>
 DoX Tryd.prog (mPick t96 t99 (.bool false)) w (pk K) fun t100 w =>
 GDo t100 true (fun E => E t50 w) w fun t102 w =>
 GDo t100 true (fun E => DoX Tryd.prog (mEq .eql 23 (.tmp 102) (.const (.int .i64 3)) t102 (.int .i64 3)) w (pk K) E) w fun t103 w =>
 DoX Tryd.prog (mPick t100 t103 (.bool false)) w (pk K) fun t104 w =>
 GDo t104 true (fun E => E t53 w) w fun t106 w =>
 GDo t104 true (fun E => DoX Tryd.prog (mEq .eql 9 (.tmp 106) (.const (.string ⟨#[47]⟩)) t106 (.string ⟨#[47]⟩)) w (pk K) E) w fun t107 w =>
 DoX Tryd.prog (mPick t104 t107 (.bool false)) w (pk K) fun t108 w =>
 GDo t108 true (fun E => E t54 w) w fun t110 w =>
 GDo t108 true (fun E => DoX Tryd.prog (mEq .eql 23 (.tmp 110) (.const (.int .i64 0)) t110 (.int .i64 0)) w (pk K) E) w fun t111 w =>
 DoX Tryd.prog (mPick t108 t111 (.bool false)) w (pk K) fun t112 w =>
 GDo t112 true (fun E => DoX Tryd.prog (mBuildS 37 6 #[(0, (.string ⟨#[49, 50]⟩)), (1, (.string ⟨#[111, 98, 106]⟩)), (2, (.string ⟨#[60, 60]⟩)), (3, (.string ⟨#[47, 65]⟩)), (4, (.string ⟨#[49]⟩)), (5, (.string ⟨#[62, 62]⟩))]) w (pk K) E) w fun t114 w =>
 GDo t112 true (fun E => CallX Tryd.prog 47 #[t114] w (pk K) E) w fun t115 w =>
 GDo t112 true (fun E => DoX Tryd.prog (mEq .eql 9 (.tmp 115) (.const (.string ⟨#[49, 50, 32, 111, 98, 106, 60, 60, 47, 65, 32, 49, 62, 62]⟩)) t115 (.string ⟨#[49, 50, 32, 111, 98, 106, 60, 60, 47, 65, 32, 49, 62, 62]⟩)) w (pk K) E) w fun t116 w =>
 DoX Tryd.prog (mPick t112 t116 (.bool false)) w (pk K) fun t117 w =>
 GDo t117 true (fun E => DoX Tryd.prog (mBuildS 37 3 #[(0, (.string ⟨#[40, 97, 41]⟩)), (1, (.string ⟨#[]⟩)), (2, (.string ⟨#[55]⟩))]) w (pk K) E) w fun t119 w =>
 GDo t117 true (fun E => CallX Tryd.prog 47 #[t119] w (pk K) E) w fun t120 w =>
 GDo t117 true (fun E => DoX Tryd.prog (mEq .eql 9 (.tmp 120) (.const (.string ⟨#[40, 97, 41, 55]⟩)) t120 (.string ⟨#[40, 97, 41, 55]⟩)) w (pk K) E) w fun t121 w =>
 DoX Tryd.prog (mPick t117 t121 (.bool false)) w (pk K) fun t122 w =>
 GDo t122 true (fun E => DoX Tryd.prog (mBuildS 37 2 #[(0, (.string ⟨#[47]⟩)), (1, (.string ⟨#[55]⟩))]) w (pk K) E) w fun t124 w =>
 GDo t122 true (fun E => CallX Tryd.prog 47 #[t124] w (pk K) E) w fun t125 w =>
 GDo t122 true (fun E => DoX Tryd.prog (mEq .eql 9 (.tmp 125) (.const (.string ⟨#[47, 32, 55]⟩)) t125 (.string ⟨#[47, 32, 55]⟩)) w (pk K) E) w fun t126 w =>
 DoX Tryd.prog (mPick t122 t126 (.bool false)) w (pk K) fun t127 w =>
 GDo t127 true (fun E => CallX Tryd.prog 47 #[(.slice none 0 0)] w (pk K) E) w fun t129 w =>
 GDo t127 true (fun E => DoX Tryd.prog (mEq .eql 9 (.tmp 129) (.const (.string ⟨#[]⟩)) t129 (.string ⟨#[]⟩)) w (pk K) E) w fun t130 w =>
 DoX Tryd.prog (mPick t127 t130 (.bool false)) w (pk K) fun t131 w =>
 GDo t131 true (fun E => CallX Tryd.prog 49 #[(.int .i64 42), (.int .i64 5)] w (pk K) E) w fun t133 w =>
 GDo t131 true (fun E => DoX Tryd.prog (mEq .eql 9 (.tmp 133) (.const (.string ⟨#[48, 48, 48, 52, 50]⟩)) t133 (.string ⟨#[48, 48, 48, 52, 50]⟩)) w (pk K) E) w fun t134 w =>
 DoX Tryd.prog (mPick t131 t134 (.bool false)) w (pk K) fun t135 w =>
 GDo t135 true (fun E => CallX Tryd.prog 49 #[(.int .i64 100000), (.int .i64 5)] w (pk K) E) w fun t137 w =>
 GDo t135 true (fun E => DoX Tryd.prog (mEq .eql 9 (.tmp 137) (.const (.string ⟨#[]⟩)) t137 (.string ⟨#[]⟩)) w (pk K) E) w fun t138 w =>
 DoX Tryd.prog (mPick t135 t138 (.bool false)) w (pk K) fun t139 w =>
 GDo t139 true (fun E => CallX Tryd.prog 49 #[(.int .i64 (-1)), (.int .i64 5)] w (pk K) E) w fun t141 w =>
 GDo t139 true (fun E => DoX Tryd.prog (mEq .eql 9 (.tmp 141) (.const (.string ⟨#[]⟩)) t141 (.string ⟨#[]⟩)) w (pk K) E) w fun t142 w =>
 DoX Tryd.prog (mPick t139 t142 (.bool false)) w (pk K) fun t143 w =>
 GDo t143 true (fun E => CallX Tryd.prog 49 #[(.int .i64 1), (.int .i64 21)] w (pk K) E) w fun t145 w =>
 GDo t143 true (fun E => DoX Tryd.prog (mEq .eql 9 (.tmp 145) (.const (.string ⟨#[]⟩)) t145 (.string ⟨#[]⟩)) w (pk K) E) w fun t146 w =>
 DoX Tryd.prog (mPick t143 t146 (.bool false)) w (pk K) fun t147 w =>
 K (.returned t147) w
theorem S_foliantlaw04_lives_eq (w : World) (K : Ending → World → Prop) : wpX Tryd.prog 148 [] [] (bodyOf Tryd.f36) (topQ Tryd.prog [.tmp 0] K) (startX []) [] w = S_foliantlaw04_lives w K := by kernel_rfl
theorem S_foliantlaw04_lives_ok {w : World} {K : Ending → World → Prop} (h : S_foliantlaw04_lives w K) : Calls Tryd.prog 36 #[] w K :=
  calls_of_wpX Tryd.func36 rfl rfl rfl rfl (Eq.mpr (S_foliantlaw04_lives_eq w K) h)

/- foliantlaw04.PlainTells -/
def S_foliantlaw04_PlainTells_0 (t0 t1 t2 t3 t4 t5 t6 t61 t62 t63 : Value) (w : World) (N1 : List Value → World → Prop) (K : Ending → World → Prop) : Prop :=
 DoX Tryd.prog (mBin .lss 3 t63 t62) w (pk K) fun t64 w =>
 IfX t64 (DoX Tryd.prog (mIA 37 t61 t63) w (pk K) fun t65 w =>
 DoX Tryd.prog (mLoad 9 t65) w (pk K) fun t66 w =>
 DoX Tryd.prog (mB .len #[9] 3 #[false] #[t66]) w (pk K) fun t68 w =>
 DoX Tryd.prog (mBin .gtr 3 t68 (.int .i64 300)) w (pk K) fun t69 w =>
 IfX t69 (CallX Tryd.prog 36 #[] w (pk K) fun t70 w =>
 K (.returned t70) w) (DoX Tryd.prog (mBin .add 3 t63 (.int .i64 1)) w (pk K) fun t71 w =>
 N1 [t71] w)) (CallX Tryd.prog 37 #[t0] w (pk K) fun t74 w =>
 DoX Tryd.prog (mExt t74 0) w (pk K) fun t75 w =>
 DoX Tryd.prog (mExt t74 1) w (pk K) fun t76 w =>
 CallX Tryd.prog 38 #[t0] w (pk K) fun t79 w =>
 DoX Tryd.prog (mExt t79 0) w (pk K) fun t80 w =>
 DoX Tryd.prog (mExt t79 1) w (pk K) fun t81 w =>
 CallX Tryd.prog 39 #[t1] w (pk K) fun t84 w =>
 DoX Tryd.prog (mExt t84 0) w (pk K) fun t85 w =>
 DoX Tryd.prog (mExt t84 1) w (pk K) fun t86 w =>
 CallX Tryd.prog 40 #[t1] w (pk K) fun t89 w =>
 DoX Tryd.prog (mExt t89 0) w (pk K) fun t90 w =>
 DoX Tryd.prog (mExt t89 1) w (pk K) fun t91 w =>
 CallX Tryd.prog 41 #[t2] w (pk K) fun t94 w =>
 DoX Tryd.prog (mExt t94 0) w (pk K) fun t95 w =>
 DoX Tryd.prog (mExt t94 1) w (pk K) fun t96 w =>
 CallX Tryd.prog 42 #[t2] w (pk K) fun t99 w =>
 DoX Tryd.prog (mExt t99 0) w (pk K) fun t100 w =>
 DoX Tryd.prog (mExt t99 1) w (pk K) fun t101 w =>
 CallX Tryd.prog 43 #[t2] w (pk K) fun t104 w =>
 DoX Tryd.prog (mExt t104 0) w (pk K) fun t105 w =>
 DoX Tryd.prog (mExt t104 1) w (pk K) fun t106 w =>
 CallX Tryd.prog 44 #[t2] w (pk K) fun t109 w =>
 DoX Tryd.prog (mExt t109 0) w (pk K) fun t110 w =>
 DoX Tryd.prog (mExt t109 1) w (pk K) fun t111 w =>
 CallX Tryd.prog 45 #[t3] w (pk K) fun t114 w =>
 DoX Tryd.prog (mExt t114 0) w (pk K) fun t115 w =>
 DoX Tryd.prog (mExt t114 1) w (pk K) fun t116 w =>
 CallX Tryd.prog 46 #[t3] w (pk K) fun t119 w =>
 DoX Tryd.prog (mExt t119 0) w (pk K) fun t120 w =>
 DoX Tryd.prog (mExt t119 1) w (pk K) fun t121 w =>
 DoX Tryd.prog (mEq .eql 9 (.tmp 122) (.tmp 123) t75 t80) w (pk K) fun t124 w =>
 GDo t124 true (fun E => E t76 w) w fun t126 w =>
 GDo t124 true (fun E => E t81 w) w fun t127 w =>
 GDo t124 true (fun E => DoX Tryd.prog (mEq .eql 23 (.tmp 126) (.tmp 127) t126 t127) w (pk K) E) w fun t128 w =>
 DoX Tryd.prog (mPick t124 t128 (.bool false)) w (pk K) fun t129 w =>
 GDo t129 true (fun E => E t85 w) w fun t131 w =>
 GDo t129 true (fun E => E t90 w) w fun t132 w =>
 GDo t129 true (fun E => DoX Tryd.prog (mEq .eql 9 (.tmp 131) (.tmp 132) t131 t132) w (pk K) E) w fun t133 w =>
 DoX Tryd.prog (mPick t129 t133 (.bool false)) w (pk K) fun t134 w =>
 GDo t134 true (fun E => E t86 w) w fun t136 w =>
 GDo t134 true (fun E => E t91 w) w fun t137 w =>
 GDo t134 true (fun E => DoX Tryd.prog (mEq .eql 23 (.tmp 136) (.tmp 137) t136 t137) w (pk K) E) w fun t138 w =>
 DoX Tryd.prog (mPick t134 t138 (.bool false)) w (pk K) fun t139 w =>
 GDo t139 true (fun E => E t95 w) w fun t141 w =>
 GDo t139 true (fun E => E t100 w) w fun t142 w =>
 GDo t139 true (fun E => DoX Tryd.prog (mEq .eql 9 (.tmp 141) (.tmp 142) t141 t142) w (pk K) E) w fun t143 w =>
 DoX Tryd.prog (mPick t139 t143 (.bool false)) w (pk K) fun t144 w =>
 GDo t144 true (fun E => E t96 w) w fun t146 w =>
 GDo t144 true (fun E => E t101 w) w fun t147 w =>
 GDo t144 true (fun E => DoX Tryd.prog (mEq .eql 23 (.tmp 146) (.tmp 147) t146 t147) w (pk K) E) w fun t148 w =>
 DoX Tryd.prog (mPick t144 t148 (.bool false)) w (pk K) fun t149 w =>
 GDo t149 true (fun E => E t105 w) w fun t151 w =>
 GDo t149 true (fun E => E t110 w) w fun t152 w =>
 GDo t149 true (fun E => DoX Tryd.prog (mEq .eql 9 (.tmp 151) (.tmp 152) t151 t152) w (pk K) E) w fun t153 w =>
 DoX Tryd.prog (mPick t149 t153 (.bool false)) w (pk K) fun t154 w =>
 GDo t154 true (fun E => E t106 w) w fun t156 w =>
 GDo t154 true (fun E => E t111 w) w fun t157 w =>
 GDo t154 true (fun E => DoX Tryd.prog (mEq .eql 23 (.tmp 156) (.tmp 157) t156 t157) w (pk K) E) w fun t158 w =>
 DoX Tryd.prog (mPick t154 t158 (.bool false)) w (pk K) fun t159 w =>
 GDo t159 true (fun E => E t115 w) w fun t161 w =>
 GDo t159 true (fun E => E t120 w) w fun t162 w =>
 GDo t159 true (fun E => DoX Tryd.prog (mEq .eql 9 (.tmp 161) (.tmp 162) t161 t162) w (pk K) E) w fun t163 w =>
 DoX Tryd.prog (mPick t159 t163 (.bool false)) w (pk K) fun t164 w =>
 GDo t164 true (fun E => E t116 w) w fun t166 w =>
 GDo t164 true (fun E => E t121 w) w fun t167 w =>
 GDo t164 true (fun E => DoX Tryd.prog (mEq .eql 23 (.tmp 166) (.tmp 167) t166 t167) w (pk K) E) w fun t168 w =>
 DoX Tryd.prog (mPick t164 t168 (.bool false)) w (pk K) fun t169 w =>
 GDo t169 true (fun E => E t4 w) w fun t171 w =>
 GDo t169 true (fun E => CallX Tryd.prog 47 #[t171] w (pk K) E) w fun t172 w =>
 GDo t169 true (fun E => E t4 w) w fun t173 w =>
 GDo t169 true (fun E => CallX Tryd.prog 48 #[t173] w (pk K) E) w fun t174 w =>
 GDo t169 true (fun E => DoX Tryd.prog (mEq .eql 9 (.tmp 172) (.tmp 174) t172 t174) w (pk K) E) w fun t175 w =>
 DoX Tryd.prog (mPick t169 t175 (.bool false)) w (pk K) fun t176 w =>
 GDo t176 true (fun E => E t5 w) w fun t178 w =>
 GDo t176 true (fun E => E t6 w) w fun t179 w =>
 GDo t176 true (fun E => CallX Tryd.prog 49 #[t178, t179] w (pk K) E) w fun t180 w =>
 GDo t176 true (fun E => E t5 w) w fun t181 w =>
 GDo t176 true (fun E => E t6 w) w fun t182 w =>
 GDo t176 true (fun E => CallX Tryd.prog 50 #[t181, t182] w (pk K) E) w fun t183 w =>
 GDo t176 true (fun E => DoX Tryd.prog (mEq .eql 9 (.tmp 180) (.tmp 183) t180 t183) w (pk K) E) w fun t184 w =>
 DoX Tryd.prog (mPick t176 t184 (.bool false)) w (pk K) fun t185 w =>
 GDo t185 true (fun E => CallX Tryd.prog 36 #[] w (pk K) E) w fun t187 w =>
 DoX Tryd.prog (mPick t185 t187 (.bool false)) w (pk K) fun t188 w =>
 K (.returned t188) w)
def S_foliantlaw04_PlainTells (t0 t1 t2 t3 t4 t5 t6 : Value) (w : World) (K : Ending → World → Prop) : Prop :=
 DoX Tryd.prog (mB .len #[9] 3 #[false] #[t2]) w (pk K) fun t38 w =>
 DoX Tryd.prog (mBin .gtr 3 t38 (.int .i64 3000)) w (pk K) fun t39 w =>
 GDo t39 true (fun E => E t2 w) w fun t41 w =>
 GDo t39 true (fun E => DoX Tryd.prog (mB .len #[9] 3 #[false] #[t41]) w (pk K) E) w fun t42 w =>
 GDo t39 true (fun E => DoX Tryd.prog (mBin .lss 3 t42 (.int .i64 32000)) w (pk K) E) w fun t43 w =>
 DoX Tryd.prog (mPick t39 t43 (.bool false)) w (pk K) fun t44 w =>
 GDo t44 false (fun E => E t2 w) w fun t46 w =>
 GDo t44 false (fun E => DoX Tryd.prog (mB .len #[9] 3 #[false] #[t46]) w (pk K) E) w fun t47 w =>
 GDo t44 false (fun E => DoX Tryd.prog (mBin .gtr 3 t47 (.int .i64 33000)) w (pk K) E) w fun t48 w =>
 DoX Tryd.prog (mPick t44 (.bool true) t48) w (pk K) fun t49 w =>
 GDo t49 false (fun E => E t3 w) w fun t51 w =>
 GDo t49 false (fun E => DoX Tryd.prog (mB .len #[9] 3 #[false] #[t51]) w (pk K) E) w fun t52 w =>
 GDo t49 false (fun E => DoX Tryd.prog (mBin .gtr 3 t52 (.int .i64 300)) w (pk K) E) w fun t53 w =>
 DoX Tryd.prog (mPick t49 (.bool true) t53) w (pk K) fun t54 w =>
 GDo t54 false (fun E => E t4 w) w fun t56 w =>
 GDo t54 false (fun E => DoX Tryd.prog (mB .len #[37] 3 #[false] #[t56]) w (pk K) E) w fun t57 w =>
 GDo t54 false (fun E => DoX Tryd.prog (mBin .gtr 3 t57 (.int .i64 40)) w (pk K) E) w fun t58 w =>
 DoX Tryd.prog (mPick t54 (.bool true) t58) w (pk K) fun t59 w =>
 IfX t59 (CallX Tryd.prog 36 #[] w (pk K) fun t60 w =>
 K (.returned t60) w) (DoX Tryd.prog (mB .len #[37] 3 #[false] #[t4]) w (pk K) fun t62 w =>
 LoopX [(.int .i64 0)] w (fun vs1 w N1 => ∀ _ : Sg, S_foliantlaw04_PlainTells_0 t0 t1 t2 t3 t4 t5 t6 t4 t62 (vs1.getD 0 undef) w N1 K))
theorem S_foliantlaw04_PlainTells_eq (t0 t1 t2 t3 t4 t5 t6 : Value) (w : World) (K : Ending → World → Prop) : wpX Tryd.prog 189 [] [(4, [63])] (bodyOf Tryd.f8) (topQ Tryd.prog [.tmp 14] K) (startX [t0, t1, t2, t3, t4, t5, t6]) [] w = S_foliantlaw04_PlainTells t0 t1 t2 t3 t4 t5 t6 w K := by kernel_rfl
theorem S_foliantlaw04_PlainTells_ok {t0 t1 t2 t3 t4 t5 t6 : Value} {w : World} {K : Ending → World → Prop} (h : S_foliantlaw04_PlainTells t0 t1 t2 t3 t4 t5 t6 w K) : Calls Tryd.prog 8 #[t0, t1, t2, t3, t4, t5, t6] w K :=
  calls_of_wpX Tryd.func8 rfl rfl rfl rfl (Eq.mpr (S_foliantlaw04_PlainTells_eq t0 t1 t2 t3 t4 t5 t6 w K) h)

/- foliantlaw04.PlainOneWay -/
def S_foliantlaw04_PlainOneWay (t0 t1 t2 t3 : Value) (w : World) (K : Ending → World → Prop) : Prop :=
 CallX Tryd.prog 36 #[] w (pk K) fun t25 w =>
 DoX Tryd.prog (mUn .not t25) w (pk K) fun t26 w =>
 IfX t26 (K (.returned (.bool false)) w) (DoX Tryd.prog (mB .len #[9] 3 #[false] #[t2]) w (pk K) fun t28 w =>
 DoX Tryd.prog (mBin .gtr 3 t28 (.int .i64 120)) w (pk K) fun t29 w =>
 GDo t29 false (fun E => E t3 w) w fun t31 w =>
 GDo t29 false (fun E => DoX Tryd.prog (mB .len #[9] 3 #[false] #[t31]) w (pk K) E) w fun t32 w =>
 GDo t29 false (fun E => DoX Tryd.prog (mBin .gtr 3 t32 (.int .i64 120)) w (pk K) E) w fun t33 w =>
 DoX Tryd.prog (mPick t29 (.bool true) t33) w (pk K) fun t34 w =>
 IfX t34 (K (.returned (.bool true)) w) (CallX Tryd.prog 37 #[t0] w (pk K) fun t37 w =>
 DoX Tryd.prog (mExt t37 0) w (pk K) fun t38 w =>
 DoX Tryd.prog (mExt t37 1) w (pk K) fun t39 w =>
 CallX Tryd.prog 37 #[t1] w (pk K) fun t42 w =>
 DoX Tryd.prog (mExt t42 0) w (pk K) fun t43 w =>
 DoX Tryd.prog (mExt t42 1) w (pk K) fun t44 w =>
 CallX Tryd.prog 39 #[t0] w (pk K) fun t47 w =>
 DoX Tryd.prog (mExt t47 0) w (pk K) fun t48 w =>
 DoX Tryd.prog (mExt t47 1) w (pk K) fun t49 w =>
 CallX Tryd.prog 39 #[t1] w (pk K) fun t52 w =>
 DoX Tryd.prog (mExt t52 0) w (pk K) fun t53 w =>
 DoX Tryd.prog (mExt t52 1) w (pk K) fun t54 w =>
 DoX Tryd.prog (mEq .eql 23 (.tmp 55) (.const (.int .i64 0)) t39 (.int .i64 0)) w (pk K) fun t56 w =>
 GDo t56 true (fun E => E t44 w) w fun t58 w =>
 GDo t56 true (fun E => DoX Tryd.prog (mEq .eql 23 (.tmp 58) (.const (.int .i64 0)) t58 (.int .i64 0)) w (pk K) E) w fun t59 w =>
 DoX Tryd.prog (mPick t56 t59 (.bool false)) w (pk K) fun t60 w =>
 GDo t60 true (fun E => E t38 w) w fun t62 w =>
 GDo t60 true (fun E => E t43 w) w fun t63 w =>
 GDo t60 true (fun E => DoX Tryd.prog (mEq .eql 9 (.tmp 62) (.tmp 63) t62 t63) w (pk K) E) w fun t64 w =>
 GDo t60 true (fun E => E t0 w) w fun t65 w =>
 GDo t60 true (fun E => E t1 w) w fun t66 w =>
 GDo t60 true (fun E => DoX Tryd.prog (mEq .eql 2 (.tmp 65) (.tmp 66) t65 t66) w (pk K) E) w fun t67 w =>
 GDo t60 true (fun E => DoX Tryd.prog (mEq .neq 4 (.tmp 64) (.tmp 67) t64 t67) w (pk K) E) w fun t68 w =>
 DoX Tryd.prog (mPick t60 t68 (.bool false)) w (pk K) fun t69 w =>
 GDo t69 false (fun E => E t49 w) w fun t71 w =>
 GDo t69 false (fun E => DoX Tryd.prog (mEq .eql 23 (.tmp 71) (.const (.int .i64 0)) t71 (.int .i64 0)) w (pk K) E) w fun t72 w =>
 GDo t69 false (fun E => E t72 w) w fun t73 w =>
 GDo t73 true (fun E => E t54 w) w fun t74 w =>
 GDo t73 true (fun E => DoX Tryd.prog (mEq .eql 23 (.tmp 74) (.const (.int .i64 0)) t74 (.int .i64 0)) w (pk K) E) w fun t75 w =>
 GDo t69 false (fun E => DoX Tryd.prog (mPick t73 t75 (.bool false)) w (pk K) E) w fun t76 w =>
 GDo t69 false (fun E => E t76 w) w fun t77 w =>
 GDo t77 true (fun E => E t48 w) w fun t78 w =>
 GDo t77 true (fun E => E t53 w) w fun t79 w =>
 GDo t77 true (fun E => DoX Tryd.prog (mEq .eql 9 (.tmp 78) (.tmp 79) t78 t79) w (pk K) E) w fun t80 w =>
 GDo t77 true (fun E => E t0 w) w fun t81 w =>
 GDo t77 true (fun E => E t1 w) w fun t82 w =>
 GDo t77 true (fun E => DoX Tryd.prog (mEq .eql 2 (.tmp 81) (.tmp 82) t81 t82) w (pk K) E) w fun t83 w =>
 GDo t77 true (fun E => DoX Tryd.prog (mEq .neq 4 (.tmp 80) (.tmp 83) t80 t83) w (pk K) E) w fun t84 w =>
 GDo t69 false (fun E => DoX Tryd.prog (mPick t77 t84 (.bool false)) w (pk K) E) w fun t85 w =>
 DoX Tryd.prog (mPick t69 (.bool true) t85) w (pk K) fun t86 w =>
 GDo t86 false (fun E => E t39 w) w fun t88 w =>
 GDo t86 false (fun E => DoX Tryd.prog (mEq .eql 23 (.tmp 88) (.const (.int .i64 0)) t88 (.int .i64 0)) w (pk K) E) w fun t89 w =>
 GDo t86 false (fun E => E t89 w) w fun t90 w =>
 GDo t90 true (fun E => E t54 w) w fun t91 w =>
 GDo t90 true (fun E => DoX Tryd.prog (mEq .eql 23 (.tmp 91) (.const (.int .i64 0)) t91 (.int .i64 0)) w (pk K) E) w fun t92 w =>
 GDo t86 false (fun E => DoX Tryd.prog (mPick t90 t92 (.bool false)) w (pk K) E) w fun t93 w =>
 GDo t86 false (fun E => E t93 w) w fun t94 w =>
 GDo t94 true (fun E => E t38 w) w fun t95 w =>
 GDo t94 true (fun E => E t53 w) w fun t96 w =>
 GDo t94 true (fun E => DoX Tryd.prog (mEq .eql 9 (.tmp 95) (.tmp 96) t95 t96) w (pk K) E) w fun t97 w =>
 GDo t86 false (fun E => DoX Tryd.prog (mPick t94 t97 (.bool false)) w (pk K) E) w fun t98 w =>
 DoX Tryd.prog (mPick t86 (.bool true) t98) w (pk K) fun t99 w =>
 IfX t99 (K (.returned (.bool false)) w) (CallX Tryd.prog 41 #[t2] w (pk K) fun t102 w =>
 DoX Tryd.prog (mExt t102 0) w (pk K) fun t103 w =>
 DoX Tryd.prog (mExt t102 1) w (pk K) fun t104 w =>
 CallX Tryd.prog 41 #[t3] w (pk K) fun t107 w =>
 DoX Tryd.prog (mExt t107 0) w (pk K) fun t108 w =>
 DoX Tryd.prog (mExt t107 1) w (pk K) fun t109 w =>
 CallX Tryd.prog 45 #[t2] w (pk K) fun t112 w =>
 DoX Tryd.prog (mExt t112 0) w (pk K) fun t113 w =>
 DoX Tryd.prog (mExt t112 1) w (pk K) fun t114 w =>
 CallX Tryd.prog 45 #[t3] w (pk K) fun t117 w =>
 DoX Tryd.prog (mExt t117 0) w (pk K) fun t118 w =>
 DoX Tryd.prog (mExt t117 1) w (pk K) fun t119 w =>
 DoX Tryd.prog (mEq .eql 23 (.tmp 120) (.const (.int .i64 0)) t104 (.int .i64 0)) w (pk K) fun t121 w =>
 GDo t121 true (fun E => E t109 w) w fun t123 w =>
 GDo t121 true (fun E => DoX Tryd.prog (mEq .eql 23 (.tmp 123) (.const (.int .i64 0)) t123 (.int .i64 0)) w (pk K) E) w fun t124 w =>
 DoX Tryd.prog (mPick t121 t124 (.bool false)) w (pk K) fun t125 w =>
 GDo t125 true (fun E => E t103 w) w fun t127 w =>
 GDo t125 true (fun E => E t108 w) w fun t128 w =>
 GDo t125 true (fun E => DoX Tryd.prog (mEq .eql 9 (.tmp 127) (.tmp 128) t127 t128) w (pk K) E) w fun t129 w =>
 GDo t125 true (fun E => E t2 w) w fun t130 w =>
 GDo t125 true (fun E => E t3 w) w fun t131 w =>
 GDo t125 true (fun E => DoX Tryd.prog (mEq .eql 9 (.tmp 130) (.tmp 131) t130 t131) w (pk K) E) w fun t132 w =>
 GDo t125 true (fun E => DoX Tryd.prog (mEq .eql 4 (.tmp 129) (.tmp 132) t129 t132) w (pk K) E) w fun t133 w =>
 DoX Tryd.prog (mPick t125 t133 (.bool false)) w (pk K) fun t134 w =>
 GDo t134 true (fun E => E t114 w) w fun t136 w =>
 GDo t134 true (fun E => DoX Tryd.prog (mEq .neq 23 (.tmp 136) (.const (.int .i64 0)) t136 (.int .i64 0)) w (pk K) E) w fun t137 w =>
 GDo t134 true (fun E => E t137 w) w fun t138 w =>
 GDo t138 false (fun E => E t119 w) w fun t139 w =>
 GDo t138 false (fun E => DoX Tryd.prog (mEq .neq 23 (.tmp 139) (.const (.int .i64 0)) t139 (.int .i64 0)) w (pk K) E) w fun t140 w =>
 GDo t134 true (fun E => DoX Tryd.prog (mPick t138 (.bool true) t140) w (pk K) E) w fun t141 w =>
 GDo t134 true (fun E => E t141 w) w fun t142 w =>
 GDo t142 false (fun E => E t113 w) w fun t143 w =>
 GDo t142 false (fun E => E t118 w) w fun t144 w =>
 GDo t142 false (fun E => DoX Tryd.prog (mEq .eql 9 (.tmp 143) (.tmp 144) t143 t144) w (pk K) E) w fun t145 w =>
 GDo t142 false (fun E => E t2 w) w fun t146 w =>
 GDo t142 false (fun E => E t3 w) w fun t147 w =>
 GDo t142 false (fun E => DoX Tryd.prog (mEq .eql 9 (.tmp 146) (.tmp 147) t146 t147) w (pk K) E) w fun t148 w =>
 GDo t142 false (fun E => DoX Tryd.prog (mEq .eql 4 (.tmp 145) (.tmp 148) t145 t148) w (pk K) E) w fun t149 w =>
 GDo t134 true (fun E => DoX Tryd.prog (mPick t142 (.bool true) t149) w (pk K) E) w fun t150 w =>
 DoX Tryd.prog (mPick t134 t150 (.bool false)) w (pk K) fun t151 w =>
 K (.returned t151) w)))
theorem S_foliantlaw04_PlainOneWay_eq (t0 t1 t2 t3 : Value) (w : World) (K : Ending → World → Prop) : wpX Tryd.prog 152 [] [] (bodyOf Tryd.f9) (topQ Tryd.prog [.tmp 8] K) (startX [t0, t1, t2, t3]) [] w = S_foliantlaw04_PlainOneWay t0 t1 t2 t3 w K := by kernel_rfl
theorem S_foliantlaw04_PlainOneWay_ok {t0 t1 t2 t3 : Value} {w : World} {K : Ending → World → Prop} (h : S_foliantlaw04_PlainOneWay t0 t1 t2 t3 w K) : Calls Tryd.prog 9 #[t0, t1, t2, t3] w K :=
  calls_of_wpX Tryd.func9 rfl rfl rfl rfl (Eq.mpr (S_foliantlaw04_PlainOneWay_eq t0 t1 t2 t3 w K) h)

/- foliantlaw04.PlainPads -/
def S_foliantlaw04_PlainPads_0 (t0 t1 t5 t6 t8 : Value) (w : World) (N1 : List Value → World → Prop) (K : Ending → World → Prop) : Prop :=
 DoX Tryd.prog (mB .len #[9] 3 #[false] #[t6]) w (pk K) fun t53 w =>
 DoX Tryd.prog (mBin .sub 3 t1 t53) w (pk K) fun t54 w =>
 DoX Tryd.prog (mBin .lss 3 t8 t54) w (pk K) fun t55 w =>
 GDo t55 true (fun E => E t8 w) w fun t57 w =>
 GDo t55 true (fun E => E t5 w) w fun t58 w =>
 GDo t55 true (fun E => DoX Tryd.prog (mB .len #[9] 3 #[false] #[t58]) w (pk K) E) w fun t59 w =>
 GDo t55 true (fun E => DoX Tryd.prog (mBin .lss 3 t57 t59) w (pk K) E) w fun t60 w =>
 DoX Tryd.prog (mPick t55 t60 (.bool false)) w (pk K) fun t61 w =>
 IfX t61 (DoX Tryd.prog (mIx 9 t5 t8) w (pk K) fun t66 w =>
 DoX Tryd.prog (mEq .neq 5 (.tmp 66) (.const (.int .u8 48)) t66 (.int .u8 48)) w (pk K) fun t67 w =>
 IfX t67 (K (.returned (.bool false)) w) (DoX Tryd.prog (mBin .add 3 t8 (.int .i64 1)) w (pk K) fun t63 w =>
 N1 [t63] w)) (DoX Tryd.prog (mB .len #[9] 3 #[false] #[t5]) w (pk K) fun t69 w =>
 DoX Tryd.prog (mEq .eql 3 (.tmp 69) (.tmp 70) t69 t1) w (pk K) fun t71 w =>
 GDo t71 true (fun E => E t5 w) w fun t73 w =>
 GDo t71 true (fun E => E t1 w) w fun t74 w =>
 GDo t71 true (fun E => E t6 w) w fun t75 w =>
 GDo t71 true (fun E => DoX Tryd.prog (mB .len #[9] 3 #[false] #[t75]) w (pk K) E) w fun t76 w =>
 GDo t71 true (fun E => DoX Tryd.prog (mBin .sub 3 t74 t76) w (pk K) E) w fun t77 w =>
 GDo t71 true (fun E => DoX Tryd.prog (mSlice 9 t73 (some t77) none none) w (pk K) E) w fun t78 w =>
 GDo t71 true (fun E => E t6 w) w fun t79 w =>
 GDo t71 true (fun E => DoX Tryd.prog (mEq .eql 9 (.tmp 78) (.tmp 79) t78 t79) w (pk K) E) w fun t80 w =>
 DoX Tryd.prog (mPick t71 t80 (.bool false)) w (pk K) fun t81 w =>
 GDo t81 true (fun E => E t0 w) w fun t83 w =>
 GDo t81 true (fun E => E t1 w) w fun t84 w =>
 GDo t81 true (fun E => DoX Tryd.prog (mBin .add 3 t84 (.int .i64 1)) w (pk K) E) w fun t85 w =>
 GDo t81 true (fun E => CallX Tryd.prog 49 #[t83, t85] w (pk K) E) w fun t86 w =>
 GDo t81 true (fun E => E t5 w) w fun t87 w =>
 GDo t81 true (fun E => DoX Tryd.prog (mBin .add 9 (.string ⟨#[48]⟩) t87) w (pk K) E) w fun t88 w =>
 GDo t81 true (fun E => DoX Tryd.prog (mEq .eql 9 (.tmp 86) (.tmp 88) t86 t88) w (pk K) E) w fun t89 w =>
 DoX Tryd.prog (mPick t81 t89 (.bool false)) w (pk K) fun t90 w =>
 K (.returned t90) w)
def S_foliantlaw04_PlainPads (t0 t1 : Value) (w : World) (K : Ending → World → Prop) : Prop :=
 CallX Tryd.prog 36 #[] w (pk K) fun t9 w =>
 DoX Tryd.prog (mUn .not t9) w (pk K) fun t10 w =>
 IfX t10 (K (.returned (.bool false)) w) (CallX Tryd.prog 49 #[t0, t1] w (pk K) fun t13 w =>
 DoX Tryd.prog (mBin .lss 3 t0 (.int .i64 0)) w (pk K) fun t15 w =>
 GDo t15 false (fun E => E t0 w) w fun t17 w =>
 GDo t15 false (fun E => DoX Tryd.prog (mBin .gtr 3 t17 (.int .i64 2147483647)) w (pk K) E) w fun t18 w =>
 DoX Tryd.prog (mPick t15 (.bool true) t18) w (pk K) fun t19 w =>
 GDo t19 false (fun E => E t1 w) w fun t21 w =>
 GDo t19 false (fun E => DoX Tryd.prog (mBin .lss 3 t21 (.int .i64 1)) w (pk K) E) w fun t22 w =>
 DoX Tryd.prog (mPick t19 (.bool true) t22) w (pk K) fun t23 w =>
 GDo t23 false (fun E => E t1 w) w fun t25 w =>
 GDo t23 false (fun E => DoX Tryd.prog (mBin .gtr 3 t25 (.int .i64 19)) w (pk K) E) w fun t26 w =>
 DoX Tryd.prog (mPick t23 (.bool true) t26) w (pk K) fun t27 w =>
 IfX t27 (DoX Tryd.prog (mB .len #[9] 3 #[false] #[t13]) w (pk K) fun t29 w =>
 DoX Tryd.prog (mBin .leq 3 t29 (.int .i64 20)) w (pk K) fun t30 w =>
 K (.returned t30) w) (CallX Tryd.prog 37 #[t0] w (pk K) fun t33 w =>
 DoX Tryd.prog (mExt t33 0) w (pk K) fun t34 w =>
 DoX Tryd.prog (mExt t33 1) w (pk K) fun t35 w =>
 DoX Tryd.prog (mEq .neq 23 (.tmp 36) (.const (.int .i64 0)) t35 (.int .i64 0)) w (pk K) fun t37 w =>
 GDo t37 false (fun E => E t34 w) w fun t39 w =>
 GDo t37 false (fun E => DoX Tryd.prog (mB .len #[9] 3 #[false] #[t39]) w (pk K) E) w fun t40 w =>
 GDo t37 false (fun E => E t1 w) w fun t41 w =>
 GDo t37 false (fun E => DoX Tryd.prog (mBin .gtr 3 t40 t41) w (pk K) E) w fun t42 w =>
 DoX Tryd.prog (mPick t37 (.bool true) t42) w (pk K) fun t43 w =>
 IfX t43 (DoX Tryd.prog (mEq .eql 23 (.tmp 44) (.const (.int .i64 0)) t35 (.int .i64 0)) w (pk K) fun t45 w =>
 GDo t45 true (fun E => E t13 w) w fun t47 w =>
 GDo t45 true (fun E => DoX Tryd.prog (mEq .eql 9 (.tmp 47) (.const (.string ⟨#[]⟩)) t47 (.string ⟨#[]⟩)) w (pk K) E) w fun t48 w =>
 DoX Tryd.prog (mPick t45 t48 (.bool false)) w (pk K) fun t49 w =>
 K (.returned t49) w) (LoopX [(.int .i64 0)] w (fun vs1 w N1 => ∀ _ : Sg, S_foliantlaw04_PlainPads_0 t0 t1 t13 t34 (vs1.getD 0 undef) w N1 K))))
theorem S_foliantlaw04_PlainPads_eq (t0 t1 : Value) (w : World) (K : Ending → World → Prop) : wpX Tryd.prog 91 [] [(10, [8])] (bodyOf Tryd.f10) (topQ Tryd.prog [.tmp 4] K) (startX [t0, t1]) [] w = S_foliantlaw04_PlainPads t0 t1 w K := by kernel_rfl
theorem S_foliantlaw04_PlainPads_ok {t0 t1 : Value} {w : World} {K : Ending → World → Prop} (h : S_foliantlaw04_PlainPads t0 t1 w K) : Calls Tryd.prog 10 #[t0, t1] w K :=
  calls_of_wpX Tryd.func10 rfl rfl rfl rfl (Eq.mpr (S_foliantlaw04_PlainPads_eq t0 t1 w K) h)

end Go.Proofs.YtfnpfbgnhncgpaaDoor
