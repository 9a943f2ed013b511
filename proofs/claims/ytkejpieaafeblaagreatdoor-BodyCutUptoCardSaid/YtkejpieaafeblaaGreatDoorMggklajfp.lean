/- Texts that go together: SOct LxA SLex LxB LxC LxD LxE LxF LxG LxH LxI SRef03 LxR SHead SRef17 HdA LxS LxT LxU LxV LxW LxX LxY LxZ LxAA LxAB LxAC SLaw04 PlT LxAD SLaw03 LxAE HdB HdC SLaw17 HdD SRef55 ScA ObJ MkB SWrite ObK ObL ObM ObN ObO MkC LxAF LxAG SLaw04B PlW SRef06 SParse PsA MkD. -/
import Derived.Test.YtkejpieaafeblaaGreatDoorRows
import Derived.Lib.SmallJoins
import Derived.Test.YtkejpieaafeblaaGreatDoorMbcfnphka
import Derived.Test.YtkejpieaafeblaaGreatDoorMenaffjmi
import Derived.Test.YtkejpieaafeblaaGreatDoorMikppdddp
set_option linter.defProp false
set_option linter.unusedSimpArgs false
set_option linter.unusedVariables false
set_option maxRecDepth 20000
open Go.Proofs.Tryz (prog)
namespace Go.Proofs.YtkejpieaafeblaaGreatDoor
section
open Eng
def S_octet_Digit (t0:Value)(w:World)(K:Ending→World→Prop):Prop:=
 DoX prog (mBin .geq 5 t0 (.int .u8 48)) w (pk K) fun t5 w=>
 GDo t5 true (fun E=>E t0 w) w fun t7 w=>
 GDo t5 true (fun E=>DoX prog (mBin .leq 5 t7 (.int .u8 57)) w (pk K) E) w fun t8 w=>
 DoX prog (mPick t5 t8 (.bool false)) w (pk K) fun t9 w=>
 IfX t9 (DoX prog (mBin .sub 5 t0 (.int .u8 48)) w (pk K) fun t11 w=>
 DoX prog (mConv 5 3 t11) w (pk K) fun t12 w=>
 K (.returned t12) w) (DoX prog (mBin .geq 5 t0 (.int .u8 65)) w (pk K) fun t15 w=>
 GDo t15 true (fun E=>E t0 w) w fun t17 w=>
 GDo t15 true (fun E=>DoX prog (mBin .leq 5 t17 (.int .u8 70)) w (pk K) E) w fun t18 w=>
 DoX prog (mPick t15 t18 (.bool false)) w (pk K) fun t19 w=>
 IfX t19 (DoX prog (mBin .sub 5 t0 (.int .u8 65)) w (pk K) fun t21 w=>
 DoX prog (mConv 5 3 t21) w (pk K) fun t22 w=>
 DoX prog (mBin .add 3 t22 (.int .i64 10)) w (pk K) fun t23 w=>
 K (.returned t23) w) (DoX prog (mBin .geq 5 t0 (.int .u8 97)) w (pk K) fun t26 w=>
 GDo t26 true (fun E=>E t0 w) w fun t28 w=>
 GDo t26 true (fun E=>DoX prog (mBin .leq 5 t28 (.int .u8 102)) w (pk K) E) w fun t29 w=>
 DoX prog (mPick t26 t29 (.bool false)) w (pk K) fun t30 w=>
 IfX t30 (DoX prog (mBin .sub 5 t0 (.int .u8 97)) w (pk K) fun t32 w=>
 DoX prog (mConv 5 3 t32) w (pk K) fun t33 w=>
 DoX prog (mBin .add 3 t33 (.int .i64 10)) w (pk K) fun t34 w=>
 K (.returned t34) w) (K (.returned (.int .i64 (-1))) w)))
theorem S_octet_Digit_eq (t0:Value)(w:World)(K:Ending→World→Prop):wpX prog 35 [] [] none (bodyOf Tryz.f117) (topQ prog [.tmp 2] K) (startX [t0]) [] w=S_octet_Digit t0 w K:=by kernel_rfl
theorem S_octet_Digit_ok {t0:Value}{w:World}{K:Ending→World→Prop}(h:S_octet_Digit t0 w K):Calls prog 117 #[t0] w K:=
 calls_of_wpX Tryz.func117 rfl rfl rfl rfl (Eq.mpr (S_octet_Digit_eq t0 w K) h)
def S_octet_Unhex_0 (t0 t4 t5:Value)(w:World)(N1:List Value→World→Prop)(K:Ending→World→Prop):Prop:=
 DoX prog (mB .len #[9] 3 #[false] #[t0]) w (pk K) fun t18 w=>
 DoX prog (mBin .lss 3 t5 t18) w (pk K) fun t19 w=>
 IfX t19 (QuietX w (fun C2=>
 QDo prog C2 (mIx 9 t0 t5) fun t24=>
 QCall prog C2 117 #[t24] fun t25=>
 QDo prog C2 (mBin .add 3 t5 (.int .i64 1)) fun t28=>
 QDo prog C2 (mIx 9 t0 t28) fun t29=>
 QCall prog C2 117 #[t29] fun t30=>
 ∀w,C2 w →
 DoX prog (mBin .lss 3 t25 (.int .i64 0)) w (pk K) fun t32 w=>
 GDo t32 false (fun E=>E t30 w) w fun t34 w=>
 GDo t32 false (fun E=>DoX prog (mBin .lss 3 t34 (.int .i64 0)) w (pk K) E) w fun t35 w=>
 DoX prog (mPick t32 (.bool true) t35) w (pk K) fun t36 w=>
 IfX t36 (K (.returned (.tuple #[(.string ⟨#[]⟩),(.int .i64 3)])) w) (DoX prog (mBin .shl 3 t25 (.int .u64 4)) w (pk K) fun t39 w=>
 DoX prog (mBin .or 3 t39 t30) w (pk K) fun t41 w=>
 DoX prog (mConv 3 5 t41) w (pk K) fun t42 w=>
 DoX prog (mBuildS 76 1 #[(0,t42)]) w (pk K) fun t43 w=>
 DoX prog (mB .append #[76,76] 76 #[false,false] #[t4,t43]) w (pk K) fun t44 w=>
 DoX prog (mBin .add 3 t5 (.int .i64 2)) w (pk K) fun t21 w=>
 N1 [t44,t21] w))) (DoX prog (mConv 76 9 t4) w (pk K) fun t46 w=>
 K (.returned (.tuple #[t46,(.int .i64 0)])) w)
def S_octet_Unhex (t0:Value)(w:World)(K:Ending→World→Prop):Prop:=
 DoX prog (mB .len #[9] 3 #[false] #[t0]) w (pk K) fun t9 w=>
 DoX prog (mBin .rem 3 t9 (.int .i64 2)) w (pk K) fun t10 w=>
 DoX prog (mEq .neq 3 (.tmp 10) (.const (.int .i64 0)) t10 (.int .i64 0)) w (pk K) fun t11 w=>
 IfX t11 (K (.returned (.tuple #[(.string ⟨#[]⟩),(.int .i64 3)])) w) (DoX prog (mB .len #[9] 3 #[false] #[t0]) w (pk K) fun t13 w=>
 DoX prog (mBin .quo 3 t13 (.int .i64 2)) w (pk K) fun t14 w=>
 DoX prog (mMake 76 (.int .i64 0) t14) w (pk K) fun t15 w=>
 LoopX [t15,(.int .i64 0)] w (fun vs1 w N1=>∀_:Sg,S_octet_Unhex_0 t0 (vs1.getD 0 undef) (vs1.getD 1 undef) w N1 K))
theorem S_octet_Unhex_eq (t0:Value)(w:World)(K:Ending→World→Prop):wpX prog 47 [] [(5,[4,5])] none (bodyOf Tryz.f119) (topQ prog [.tmp 2,.tmp 3] K) (startX [t0]) [] w=S_octet_Unhex t0 w K:=by kernel_rfl
theorem S_octet_Unhex_ok {t0:Value}{w:World}{K:Ending→World→Prop}(h:S_octet_Unhex t0 w K):Calls prog 119 #[t0] w K:=
 calls_of_wpX Tryz.func119 rfl rfl rfl rfl (Eq.mpr (S_octet_Unhex_eq t0 w K) h)
def S_octet_Begins (t0 t1 t2:Value)(w:World)(K:Ending→World→Prop):Prop:=
 DoX prog (mBin .geq 3 t2 (.int .i64 0)) w (pk K) fun t8 w=>
 GDo t8 true (fun E=>E t2 w) w fun t10 w=>
 GDo t8 true (fun E=>E t0 w) w fun t11 w=>
 GDo t8 true (fun E=>DoX prog (mB .len #[9] 3 #[false] #[t11]) w (pk K) E) w fun t12 w=>
 GDo t8 true (fun E=>DoX prog (mBin .leq 3 t10 t12) w (pk K) E) w fun t13 w=>
 DoX prog (mPick t8 t13 (.bool false)) w (pk K) fun t14 w=>
 GDo t14 true (fun E=>E t0 w) w fun t16 w=>
 GDo t14 true (fun E=>E t2 w) w fun t17 w=>
 GDo t14 true (fun E=>DoX prog (mSlice 9 t16 (some t17) none none) w (pk K) E) w fun t18 w=>
 GDo t14 true (fun E=>E t1 w) w fun t19 w=>
 GDo t14 true (fun E=>CallX prog 115 #[t18,t19] w (pk K) E) w fun t20 w=>
 DoX prog (mPick t14 t20 (.bool false)) w (pk K) fun t21 w=>
 K (.returned t21) w
theorem S_octet_Begins_eq (t0 t1 t2:Value)(w:World)(K:Ending→World→Prop):wpX prog 22 [] [] none (bodyOf Tryz.f73) (topQ prog [.tmp 6] K) (startX [t0,t1,t2]) [] w=S_octet_Begins t0 t1 t2 w K:=by kernel_rfl
theorem S_octet_Begins_ok {t0 t1 t2:Value}{w:World}{K:Ending→World→Prop}(h:S_octet_Begins t0 t1 t2 w K):Calls prog 73 #[t0,t1,t2] w K:=
 calls_of_wpX Tryz.func73 rfl rfl rfl rfl (Eq.mpr (S_octet_Begins_eq t0 t1 t2 w K) h)
def S_octet_Skip_1 (t1 t5:Value)(w:World)(N1:List Value→World→Prop)(K:Ending→World→Prop):Prop:=
 DoX prog (mBin .add 3 t1 (.int .i64 1)) w (pk K) fun t21 w=>
 N1 [t21,t5] w
def S_octet_Skip_0 (t0 t1 t5:Value)(w:World)(N1:List Value→World→Prop)(K:Ending→World→Prop):Prop:=
 DoX prog (mB .len #[9] 3 #[false] #[t0]) w (pk K) fun t18 w=>
 DoX prog (mBin .lss 3 t1 t18) w (pk K) fun t19 w=>
 IfX t19 (JoinX (fun J2=>
 DoX prog (mIx 9 t0 t1) w (pk K) fun t24 w=>
 IfX t5 (CallX prog 113 #[t24] w (pk K) fun t28 w=>
 DoX prog (mUn .not t28) w (pk K) fun t29 w=>
 J2 [t29] w) (DoX prog (mEq .eql 5 (.tmp 31) (.const (.int .u8 37)) t24 (.int .u8 37)) w (pk K) fun t32 w=>
 IfX t32 (J2 [(.bool true)] w) (CallX prog 114 #[t24] w (pk K) fun t35 w=>
 DoX prog (mUn .not t35) w (pk K) fun t36 w=>
 IfX t36 (K (.returned t1) w) (J2 [t5] w)))) (fun vs2 w=>∀_:Sg,S_octet_Skip_1 t1 (vs2.getD 0 undef) w N1 K)) (DoX prog (mB .len #[9] 3 #[false] #[t0]) w (pk K) fun t39 w=>
 K (.returned t39) w)
def S_octet_Skip (t0 t1:Value)(w:World)(K:Ending→World→Prop):Prop:=
 DoX prog (mBin .lss 3 t1 (.int .i64 0)) w (pk K) fun t8 w=>
 GDo t8 false (fun E=>E t1 w) w fun t10 w=>
 GDo t8 false (fun E=>E t0 w) w fun t11 w=>
 GDo t8 false (fun E=>DoX prog (mB .len #[9] 3 #[false] #[t11]) w (pk K) E) w fun t12 w=>
 GDo t8 false (fun E=>DoX prog (mBin .gtr 3 t10 t12) w (pk K) E) w fun t13 w=>
 DoX prog (mPick t8 (.bool true) t13) w (pk K) fun t14 w=>
 IfX t14 (K (.returned t1) w) (LoopX [t1,(.bool false)] w (fun vs1 w N1=>∀_:Sg,S_octet_Skip_0 t0 (vs1.getD 0 undef) (vs1.getD 1 undef) w N1 K))
theorem S_octet_Skip_eq (t0 t1:Value)(w:World)(K:Ending→World→Prop):wpX prog 40 [(5,[5])] [(4,[1,5])] none (bodyOf Tryz.f72) (topQ prog [.tmp 4] K) (startX [t0,t1]) [] w=S_octet_Skip t0 t1 w K:=by kernel_rfl
theorem S_octet_Skip_ok {t0 t1:Value}{w:World}{K:Ending→World→Prop}(h:S_octet_Skip t0 t1 w K):Calls prog 72 #[t0,t1] w K:=
 calls_of_wpX Tryz.func72 rfl rfl rfl rfl (Eq.mpr (S_octet_Skip_eq t0 t1 w K) h)
def S_octet_Line_0 (t0 t1:Value)(w:World)(N1:List Value→World→Prop)(K:Ending→World→Prop):Prop:=
 DoX prog (mB .len #[9] 3 #[false] #[t0]) w (pk K) fun t16 w=>
 DoX prog (mBin .lss 3 t1 t16) w (pk K) fun t17 w=>
 IfX t17 (DoX prog (mIx 9 t0 t1) w (pk K) fun t22 w=>
 DoX prog (mEq .eql 5 (.tmp 22) (.const (.int .u8 10)) t22 (.int .u8 10)) w (pk K) fun t24 w=>
 IfX t24 (DoX prog (mBin .add 3 t1 (.int .i64 1)) w (pk K) fun t26 w=>
 K (.returned t26) w) (DoX prog (mEq .eql 5 (.tmp 22) (.const (.int .u8 13)) t22 (.int .u8 13)) w (pk K) fun t28 w=>
 IfX t28 (CallX prog 73 #[t0,(.string ⟨#[13,10]⟩),t1] w (pk K) fun t31 w=>
 IfX t31 (DoX prog (mBin .add 3 t1 (.int .i64 2)) w (pk K) fun t33 w=>
 K (.returned t33) w) (DoX prog (mBin .add 3 t1 (.int .i64 1)) w (pk K) fun t35 w=>
 K (.returned t35) w)) (DoX prog (mBin .add 3 t1 (.int .i64 1)) w (pk K) fun t19 w=>
 N1 [t19] w))) (DoX prog (mB .len #[9] 3 #[false] #[t0]) w (pk K) fun t37 w=>
 K (.returned t37) w)
def S_octet_Line (t0 t1:Value)(w:World)(K:Ending→World→Prop):Prop:=
 DoX prog (mBin .lss 3 t1 (.int .i64 0)) w (pk K) fun t6 w=>
 GDo t6 false (fun E=>E t1 w) w fun t8 w=>
 GDo t6 false (fun E=>E t0 w) w fun t9 w=>
 GDo t6 false (fun E=>DoX prog (mB .len #[9] 3 #[false] #[t9]) w (pk K) E) w fun t10 w=>
 GDo t6 false (fun E=>DoX prog (mBin .gtr 3 t8 t10) w (pk K) E) w fun t11 w=>
 DoX prog (mPick t6 (.bool true) t11) w (pk K) fun t12 w=>
 IfX t12 (K (.returned t1) w) (LoopX [t1] w (fun vs1 w N1=>∀_:Sg,S_octet_Line_0 t0 (vs1.getD 0 undef) w N1 K))
theorem S_octet_Line_eq (t0 t1:Value)(w:World)(K:Ending→World→Prop):wpX prog 38 [] [(3,[1])] none (bodyOf Tryz.f170) (topQ prog [.tmp 4] K) (startX [t0,t1]) [] w=S_octet_Line t0 t1 w K:=by kernel_rfl
theorem S_octet_Line_ok {t0 t1:Value}{w:World}{K:Ending→World→Prop}(h:S_octet_Line t0 t1 w K):Calls prog 170 #[t0,t1] w K:=
 calls_of_wpX Tryz.func170 rfl rfl rfl rfl (Eq.mpr (S_octet_Line_eq t0 t1 w K) h)
def S_octet_ends (t0:Value)(w:World)(K:Ending→World→Prop):Prop:=
 DoX prog (mEq .eql 5 (.tmp 3) (.const (.int .u8 13)) t0 (.int .u8 13)) w (pk K) fun t4 w=>
 GDo t4 false (fun E=>E t0 w) w fun t6 w=>
 GDo t4 false (fun E=>DoX prog (mEq .eql 5 (.tmp 6) (.const (.int .u8 10)) t6 (.int .u8 10)) w (pk K) E) w fun t7 w=>
 DoX prog (mPick t4 (.bool true) t7) w (pk K) fun t8 w=>
 K (.returned t8) w
theorem S_octet_ends_eq (t0:Value)(w:World)(K:Ending→World→Prop):wpX prog 9 [] [] none (bodyOf Tryz.f113) (topQ prog [.tmp 2] K) (startX [t0]) [] w=S_octet_ends t0 w K:=by kernel_rfl
theorem S_octet_ends_ok {t0:Value}{w:World}{K:Ending→World→Prop}(h:S_octet_ends t0 w K):Calls prog 113 #[t0] w K:=
 calls_of_wpX Tryz.func113 rfl rfl rfl rfl (Eq.mpr (S_octet_ends_eq t0 w K) h)
end
section
open Eng Go.RowKit
theorem ends_ret (c:UInt8)(w:World):Ret prog 113 #[.int .u8 c.toNat] w (fun v w'=>v=.bool (Lx.eol c)∧w=w'):=by
 refine ret_of fun K hK=>S_octet_ends_ok ?_;unfold S_octet_ends;have e1:=u8d c 13 13 rfl;have e2:=u8d c 10 10 rfl;by_cases h1:c=13
 ·simp only[rs,e1,decide_eq_true h1,g_un];exact hK _ _ ⟨by simp[Lx.eol,h1],rfl⟩
 simp only[rs,e1,decide_eq_false h1,g_un,e2];exact hK _ _ ⟨by simp[Lx.eol,h1],rfl⟩
def begins (s p:List UInt8)(k:Int):Bool:=decide (0≤k)&&decide (k≤(s.length:Int))&&p.isPrefixOf (s.drop k.toNat)
theorem begins_ret (s p:List UInt8)(k:Int)(w:World):Ret prog 73 #[.string ⟨s.toArray⟩,.string ⟨p.toArray⟩,.int .i64 k] w (fun v w'=>v=.bool (begins s p k)∧w=w'):=by
 refine ret_of fun K hK=>S_octet_Begins_ok ?_;unfold S_octet_Begins;by_cases h1:0≤k
 ·simp only[rs,h1,decide_true,s_len Tryz.underlying9];by_cases h2:k≤(s.length:Int)
  ·simp only[rs,h2,decide_true];rw[s_from Tryz.underlying9 h1 h2];refine c_eq (hasPrefix_ret _ p w) ?_;exact hK _ _ ⟨by simp[begins,h1,h2],rfl⟩
  ·simp only[rs,h2,decide_false,g_un];exact hK _ _ ⟨by simp[begins,h2],rfl⟩
 ·simp only[rs,h1,decide_false,g_un];exact hK _ _ ⟨by simp[begins,h1],rfl⟩
theorem crlf_begins (s:List UInt8)(k:Nat)(hk:k < s.length)(h:s[k]=13):begins s [13,10] (k:Int)=decide ((s.drop (k+1)).head?=some 10):=by
 unfold begins;rw[Int.toNat_natCast,Lx.drop_cons hk,h,decide_eq_true (by omega),decide_eq_true (by omega)];cases hd:s.drop (k+1) with
|nil=>simp
|cons d t=>
  by_cases h10:d=10
  ·subst h10;simp
  ·have:¬(10=d):=fun e=>h10 e.symm;have h11:((10:UInt8)==d)=false:=by simp[this]
   have h12:¬(some d=some (10:UInt8)):=by simpa using h10
   rw[List.head?_cons,decide_eq_false h12];simp[List.isPrefixOf,h11]
theorem line_ret (s:List UInt8)(k:Nat)(w:World)(hk:k≤s.length)(hs:s.length≤4611686018427387904):Ret prog 170 #[.string ⟨s.toArray⟩,.int .i64 k] w (fun v w'=>v=.int .i64 (Lx.line s k)∧w=w'):=by
 refine ret_of fun K hK=>S_octet_Line_ok ?_;unfold S_octet_Line;have h0:¬((k:Int) < 0):=by omega
 have h1:¬((s.length:Int) < (k:Int)):=by omega
 simp only[rs,h0,h1,decide_false,s_len Tryz.underlying9];refine loop (fun vs w'=>∃(i:Nat),vs=[.int .i64 i]∧i≤s.length∧Lx.line s i=Lx.line s k∧w=w') (fun vs _=>s.length - n0 vs) ⟨k,rfl,hk,rfl,rfl⟩ ?_;rintro vs w2 ⟨i,rfl,hi,he,rfl⟩ _;simp only[S_octet_Line_0,gd,s_len Tryz.underlying9];rw[b_lss];by_cases hlt:(i:Int) < (s.length:Int)
 ·have hi2:i < s.length:=by omega
  simp only[hlt,decide_true,i_t];rw[s_ix (c:=s[i]) Tryz.underlying9 (by omega) (by simp[hi2])];have hd:=Lx.drop_cons hi2;have e1:=u8d s[i] 10 10 rfl;have e2:=u8d s[i] 13 13 rfl;by_cases g1:s[i]=10
  ·simp only[rs,e1,decide_eq_true g1];rw[wrap64_id (by omega) (by omega)];refine hK _ _ ⟨?_,rfl⟩;rw[←he,Lx.line,hd,Lx.lineF,if_pos g1];simp
  simp only[rs,e1,decide_eq_false g1];by_cases g2:s[i]=13
  ·simp only[rs,e2,decide_eq_true g2];refine c_eq (begins_ret s [13,10] i w) ?_;rw[crlf_begins s i hi2 g2];by_cases g3:(s.drop (i+1)).head?=some 10
   ·simp only[decide_eq_true g3,i_t];rw[wrap64_id (by omega) (by omega)];refine hK _ _ ⟨?_,rfl⟩;rw[←he,Lx.line,hd,Lx.lineF,if_neg g1,if_pos g2,if_pos g3];simp
   ·simp only[decide_eq_false g3,i_f];rw[wrap64_id (by omega) (by omega)];refine hK _ _ ⟨?_,rfl⟩;rw[←he,Lx.line,hd,Lx.lineF,if_neg g1,if_pos g2,if_neg g3];simp
  simp only[rs,e2,decide_eq_false g2];rw[wrap64_id (by omega) (by omega)];refine nextX ⟨i+1,rfl,by omega,?_,rfl⟩ (by simp[n0,RowKit.intOf];omega);rw[←he];simp only[Lx.line];rw[hd,Lx.lineF,if_neg g1,if_neg g2];omega
 ·have hi2:i=s.length:=by omega
  subst hi2;simp only[hlt,decide_false,i_f];refine hK _ _ ⟨?_,rfl⟩;rw[←he,Lx.line,List.drop_length];simp[Lx.lineF]
theorem skip_ret (s:List UInt8)(k:Int)(w:World)(hs:s.length≤4611686018427387904):Ret prog 72 #[.string ⟨s.toArray⟩,.int .i64 k] w (fun v w'=>v=.int .i64 (Lx.skipI s k)∧w=w'):=by
 refine ret_of fun K hK=>S_octet_Skip_ok ?_;unfold S_octet_Skip;by_cases h0:k < 0
 ·simp only[rs,h0,decide_true,g_un];exact hK _ _ ⟨by rw[Lx.skipI,if_pos (.inl h0)],rfl⟩
 simp only[rs,h0,decide_false,s_len Tryz.underlying9];by_cases h1:(s.length:Int) < k
 ·simp only[rs,h1,decide_true];exact hK _ _ ⟨by rw[Lx.skipI,if_pos (.inr h1)],rfl⟩
 simp only[rs,h1,decide_false];have hsk:Lx.skipI s k=((Lx.skip s k.toNat:Nat):Int):=by rw[Lx.skipI,if_neg (by omega)]
 refine loop (fun vs w'=>∃(i:Nat) (b:Bool),vs=[.int .i64 i,.bool b]∧i≤s.length∧i+Lx.skipF b (s.drop i)=Lx.skip s k.toNat∧w=w') (fun vs _=>s.length - n0 vs) ⟨k.toNat,false,by rw[Int.toNat_of_nonneg (by omega)],by omega,rfl,rfl⟩ ?_;rintro vs w2 ⟨i,b,rfl,hi,he,rfl⟩ _;simp only[S_octet_Skip_0,gd,s_len Tryz.underlying9];rw[b_lss];by_cases hlt:(i:Int) < (s.length:Int)
 ·have hi2:i < s.length:=by omega
  simp only[hlt,decide_true,i_t];refine join fun J2 hJ2=>?_;rw[s_ix (c:=s[i]) Tryz.underlying9 (by omega) (by simp[hi2])];have hd:=Lx.drop_cons hi2;rw[hd] at he;have fin:∀b':Bool,i+1+Lx.skipF b' (s.drop (i+1))=Lx.skip s k.toNat→J2 [.bool b'] w:=by
   intro b' hb';refine hJ2 _ _ fun _=>?_;simp only[S_octet_Skip_1,gd];rw[b_add,wrap64_id (by omega) (by omega)];exact nextX ⟨i+1,b',rfl,by omega,hb',rfl⟩ (by simp[n0,RowKit.intOf];omega)
  cases b with
 |true=>
   simp only[i_t];refine c_eq (ends_ret s[i] w) ?_;simp only[rs];exact fin _ (by rw[Lx.skipF] at he;omega)
 |false=>
   simp only[i_f];have e1:=u8d s[i] 37 37 rfl;by_cases g1:s[i]=37
   ·simp only[rs,e1,decide_eq_true g1];exact fin _ (by rw[Lx.skipF,if_pos g1] at he;omega)
   simp only[rs,e1,decide_eq_false g1];refine c_eq (white_ret s[i] w) ?_;cases hw:Oc.white s[i] with
  |true=>
    simp only[rs];exact fin _ (by rw[Lx.skipF,if_neg g1,if_pos hw] at he;omega)
  |false=>
    simp only[rs];refine hK _ _ ⟨?_,rfl⟩;rw[Lx.skipF,if_neg g1,if_neg (by simp[hw])] at he;rw[hsk,←he];simp
 ·have hi2:i=s.length:=by omega
  subst hi2;simp only[hlt,decide_false,i_f];rw[List.drop_length] at he;refine hK _ _ ⟨?_,rfl⟩;rw[hsk,←he];cases b<;>simp[Lx.skipF]
 attribute [local congr] g_congr in
theorem digit_ret (c:UInt8)(w:World):Ret prog 117 #[.int .u8 c.toNat] w (fun v w'=>v=.int .i64 (Lx.digit c)∧w=w'):=by
  refine ret_of fun K hK=>S_octet_Digit_ok ?_;unfold S_octet_Digit;have h256:=c.toNat_lt;have conv:∀{n:Int} {PK K},0≤n→n≤255→DoX prog (mConv 5 3 (.int .u8 n)) w PK K=K (.int .i64 n) w:=by
   intro n PK K h0 h1;rw[c_int (show (Tryz.prog.underlying 5).isSome=true by kernel_rfl) Tryz.underlying3,wrap64_id (by omega) (by omega)]
  simp +contextual only[rs,gs];by_cases h1:48≤c.toNat∧c.toNat≤57
  ·have hb:(decide ((48:Int)≤(c.toNat:Int))&&decide ((c.toNat:Int)≤57))=true:=by simp;omega
   simp only[hb,i_t];rw[wrap8_id (by omega) (by omega),conv (by omega) (by omega)];exact hK _ _ ⟨by rw[Lx.digit,if_pos h1],rfl⟩
  have hb:(decide ((48:Int)≤(c.toNat:Int))&&decide ((c.toNat:Int)≤57))=false:=by
   rw[Bool.and_eq_false_iff,decide_eq_false_iff_not,decide_eq_false_iff_not];omega
  simp only[hb,i_f];by_cases h2:65≤c.toNat∧c.toNat≤70
  ·have hb:(decide ((65:Int)≤(c.toNat:Int))&&decide ((c.toNat:Int)≤70))=true:=by simp;omega
   simp only[hb,i_t];rw[wrap8_id (by omega) (by omega),conv (by omega) (by omega),b_add,wrap64_id (by omega) (by omega)];exact hK _ _ ⟨by rw[Lx.digit,if_neg h1,if_pos h2],rfl⟩
  have hb:(decide ((65:Int)≤(c.toNat:Int))&&decide ((c.toNat:Int)≤70))=false:=by
   rw[Bool.and_eq_false_iff,decide_eq_false_iff_not,decide_eq_false_iff_not];omega
  simp only[hb,i_f];by_cases h3:97≤c.toNat∧c.toNat≤102
  ·have hb:(decide ((97:Int)≤(c.toNat:Int))&&decide ((c.toNat:Int)≤102))=true:=by simp;omega
   simp only[hb,i_t];rw[wrap8_id (by omega) (by omega),conv (by omega) (by omega),b_add,wrap64_id (by omega) (by omega)];exact hK _ _ ⟨by rw[Lx.digit,if_neg h1,if_neg h2,if_pos h3],rfl⟩
  have hb:(decide ((97:Int)≤(c.toNat:Int))&&decide ((c.toNat:Int)≤102))=false:=by
   rw[Bool.and_eq_false_iff,decide_eq_false_iff_not,decide_eq_false_iff_not];omega
  simp only[hb,i_f];exact hK _ _ ⟨by rw[Lx.digit,if_neg h1,if_neg h2,if_neg h3],rfl⟩
end
section
open Eng
def S_lex_Next_0 (t4 t6 t7 t49 t50:Value)(w:World)(K:Ending→World→Prop):Prop:=
 IfX t50 (DoX prog (mLoad 108 t6) w (pk K) fun t55 w=>
 CallX prog 74 #[t55,(.int .i64 1)] w (pk K) fun t56 w=>
 DoX prog (mExt t56 0) w (pk K) fun t57 w=>
 DoX prog (mExt t56 1) w (pk K) fun t58 w=>
 DoX prog (mStore 58 t4 t57) w (pk K) fun _ w=>
 RetX prog [.cell t4 58,.val t58] w K) (DoX prog (mEq .eql 5 (.tmp 49) (.const (.int .u8 60)) t49 (.int .u8 60)) w (pk K) fun t60 w=>
 IfX t60 (IfX t7 (DoX prog (mLoad 108 t6) w (pk K) fun t62 w=>
 CallX prog 74 #[t62,(.int .i64 2)] w (pk K) fun t63 w=>
 DoX prog (mExt t63 0) w (pk K) fun t64 w=>
 DoX prog (mExt t63 1) w (pk K) fun t65 w=>
 DoX prog (mStore 58 t4 t64) w (pk K) fun _ w=>
 RetX prog [.cell t4 58,.val t65] w K) (DoX prog (mLoad 108 t6) w (pk K) fun t66 w=>
 CallX prog 75 #[t66] w (pk K) fun t67 w=>
 DoX prog (mExt t67 0) w (pk K) fun t68 w=>
 DoX prog (mExt t67 1) w (pk K) fun t69 w=>
 DoX prog (mStore 58 t4 t68) w (pk K) fun _ w=>
 RetX prog [.cell t4 58,.val t69] w K)) (DoX prog (mEq .eql 5 (.tmp 49) (.const (.int .u8 62)) t49 (.int .u8 62)) w (pk K) fun t71 w=>
 IfX t71 (IfX t7 (DoX prog (mLoad 108 t6) w (pk K) fun t73 w=>
 CallX prog 74 #[t73,(.int .i64 2)] w (pk K) fun t74 w=>
 DoX prog (mExt t74 0) w (pk K) fun t75 w=>
 DoX prog (mExt t74 1) w (pk K) fun t76 w=>
 DoX prog (mStore 58 t4 t75) w (pk K) fun _ w=>
 RetX prog [.cell t4 58,.val t76] w K) (CallX prog 71 #[(.int .i64 3)] w (pk K) fun t77 w=>
 DoX prog (mExt t77 0) w (pk K) fun t78 w=>
 DoX prog (mExt t77 1) w (pk K) fun t79 w=>
 DoX prog (mStore 58 t4 t78) w (pk K) fun _ w=>
 RetX prog [.cell t4 58,.val t79] w K)) (DoX prog (mEq .eql 5 (.tmp 49) (.const (.int .u8 47)) t49 (.int .u8 47)) w (pk K) fun t81 w=>
 IfX t81 (DoX prog (mLoad 108 t6) w (pk K) fun t82 w=>
 CallX prog 76 #[t82] w (pk K) fun t83 w=>
 DoX prog (mExt t83 0) w (pk K) fun t84 w=>
 DoX prog (mExt t83 1) w (pk K) fun t85 w=>
 DoX prog (mStore 58 t4 t84) w (pk K) fun _ w=>
 RetX prog [.cell t4 58,.val t85] w K) (DoX prog (mEq .eql 5 (.tmp 49) (.const (.int .u8 40)) t49 (.int .u8 40)) w (pk K) fun t87 w=>
 IfX t87 (DoX prog (mLoad 108 t6) w (pk K) fun t88 w=>
 CallX prog 77 #[t88] w (pk K) fun t89 w=>
 DoX prog (mExt t89 0) w (pk K) fun t90 w=>
 DoX prog (mExt t89 1) w (pk K) fun t91 w=>
 DoX prog (mStore 58 t4 t90) w (pk K) fun _ w=>
 RetX prog [.cell t4 58,.val t91] w K) (DoX prog (mEq .eql 5 (.tmp 49) (.const (.int .u8 41)) t49 (.int .u8 41)) w (pk K) fun t93 w=>
 IfX t93 (CallX prog 71 #[(.int .i64 3)] w (pk K) fun t94 w=>
 DoX prog (mExt t94 0) w (pk K) fun t95 w=>
 DoX prog (mExt t94 1) w (pk K) fun t96 w=>
 DoX prog (mStore 58 t4 t95) w (pk K) fun _ w=>
 RetX prog [.cell t4 58,.val t96] w K) (DoX prog (mLoad 108 t6) w (pk K) fun t97 w=>
 CallX prog 78 #[t97] w (pk K) fun t98 w=>
 DoX prog (mExt t98 0) w (pk K) fun t99 w=>
 DoX prog (mExt t98 1) w (pk K) fun t100 w=>
 DoX prog (mStore 58 t4 t99) w (pk K) fun _ w=>
 RetX prog [.cell t4 58,.val t100] w K))))))
def S_lex_Next (t0 t1:Value)(w:World)(K:Ending→World→Prop):Prop:=
 DoX prog (mAlloc 58) w (pk K) fun t4 w=>
 DoX prog (mBin .lss 3 t1 (.int .i64 0)) w (pk K) fun t9 w=>
 GDo t9 false (fun E=>E t1 w) w fun t11 w=>
 GDo t9 false (fun E=>E t0 w) w fun t12 w=>
 GDo t9 false (fun E=>DoX prog (mB .len #[9] 3 #[false] #[t12]) w (pk K) E) w fun t13 w=>
 GDo t9 false (fun E=>DoX prog (mBin .gtr 3 t11 t13) w (pk K) E) w fun t14 w=>
 DoX prog (mPick t9 (.bool true) t14) w (pk K) fun t15 w=>
 IfX t15 (CallX prog 71 #[(.int .i64 1)] w (pk K) fun t16 w=>
 DoX prog (mExt t16 0) w (pk K) fun t17 w=>
 DoX prog (mExt t16 1) w (pk K) fun t18 w=>
 DoX prog (mStore 58 t4 t17) w (pk K) fun _ w=>
 RetX prog [.cell t4 58,.val t18] w K) (CallX prog 72 #[t0,t1] w (pk K) fun t22 w=>
 DoX prog (mBuild 108 #[(0,t0),(1,t22)]) w (pk K) fun t23 w=>
 DoX prog (mAlloc 108) w (pk K) fun t6 w=>
 DoX prog (mStore 108 t6 t23) w (pk K) fun _ w=>
 DoX prog (mFA 108 t6 1) w (pk K) fun t24 w=>
 DoX prog (mLoad 3 t24) w (pk K) fun t25 w=>
 DoX prog (mB .len #[9] 3 #[false] #[t0]) w (pk K) fun t27 w=>
 DoX prog (mEq .eql 3 (.tmp 25) (.tmp 27) t25 t27) w (pk K) fun t28 w=>
 IfX t28 (DoX prog (mFA 108 t6 1) w (pk K) fun t29 w=>
 DoX prog (mLoad 3 t29) w (pk K) fun t30 w=>
 DoX prog (mFA 108 t6 1) w (pk K) fun t31 w=>
 DoX prog (mLoad 3 t31) w (pk K) fun t32 w=>
 DoX prog (mBuild 58 #[(1,t30),(2,t32)]) w (pk K) fun t33 w=>
 DoX prog (mStore 58 t4 t33) w (pk K) fun _ w=>
 RetX prog [.cell t4 58,.val (.int .i64 0)] w K) (QuietX w (fun C1=>
 QDo prog C1 (mFA 108 t6 1) fun t36=>
 QDo prog C1 (mLoad 3 t36) fun t37=>
 QDo prog C1 (mFA 108 t6 1) fun t38=>
 QDo prog C1 (mLoad 3 t38) fun t39=>
 QDo prog C1 (mBin .add 3 t39 (.int .i64 1)) fun t40=>
 QDo prog C1 (mSlice 9 t0 (some t37) (some t40) none) fun t41=>
 QDo prog C1 (mFA 108 t6 1) fun t42=>
 QDo prog C1 (mLoad 3 t42) fun t43=>
 QDo prog C1 (mBin .add 3 t43 (.int .i64 1)) fun t44=>
 QCall prog C1 73 #[t0,t41,t44] fun t45=>
 ∀w,C1 w →
 DoX prog (mFA 108 t6 1) w (pk K) fun t47 w=>
 DoX prog (mLoad 3 t47) w (pk K) fun t48 w=>
 DoX prog (mIx 9 t0 t48) w (pk K) fun t49 w=>
 JoinX (fun J2=>
 DoX prog (mEq .eql 5 (.tmp 49) (.const (.int .u8 91)) t49 (.int .u8 91)) w (pk K) fun t51 w=>
 IfX t51 (J2 [t51] w) (DoX prog (mEq .eql 5 (.tmp 49) (.const (.int .u8 93)) t49 (.int .u8 93)) w (pk K) fun t52 w=>
 IfX t52 (J2 [t52] w) (DoX prog (mEq .eql 5 (.tmp 49) (.const (.int .u8 123)) t49 (.int .u8 123)) w (pk K) fun t53 w=>
 IfX t53 (J2 [t53] w) (DoX prog (mEq .eql 5 (.tmp 49) (.const (.int .u8 125)) t49 (.int .u8 125)) w (pk K) fun t54 w=>
 J2 [t54] w)))) (fun vs2 w=>∀_:Sg,S_lex_Next_0 t4 t6 t45 t49 (vs2.getD 0 undef) w K))))
theorem S_lex_Next_eq (t0 t1:Value)(w:World)(K:Ending→World→Prop):wpX prog 101 [(12,[50])] [] none (bodyOf Tryz.f35) (topQ prog [.cell 4 58,.tmp 5] K) (startX [t0,t1]) [] w=S_lex_Next t0 t1 w K:=by kernel_rfl
theorem S_lex_Next_ok {t0 t1:Value}{w:World}{K:Ending→World→Prop}(h:S_lex_Next t0 t1 w K):Calls prog 35 #[t0,t1] w K:=
 calls_of_wpX Tryz.func35 rfl rfl rfl rfl (Eq.mpr (S_lex_Next_eq t0 t1 w K) h)
def S_lex_cutter_mark (t0 t1:Value)(w:World)(K:Ending→World→Prop):Prop:=
 DoX prog (mBox 108 t0) w (pk K) fun t2 w=>
 DoX prog (mAlloc 58) w (pk K) fun t4 w=>
 QuietX w (fun C1=>
 QDo prog C1 (mFA 108 t2 1) fun t6=>
 QDo prog C1 (mLoad 3 t6) fun t7=>
 QDo prog C1 (mFA 108 t2 1) fun t8=>
 QDo prog C1 (mLoad 3 t8) fun t9=>
 QDo prog C1 (mBin .add 3 t9 t1) fun t11=>
 QDo prog C1 (mFA 108 t2 0) fun t12=>
 QDo prog C1 (mLoad 9 t12) fun t13=>
 QDo prog C1 (mFA 108 t2 1) fun t14=>
 QDo prog C1 (mLoad 3 t14) fun t15=>
 QDo prog C1 (mFA 108 t2 1) fun t16=>
 QDo prog C1 (mLoad 3 t16) fun t17=>
 QDo prog C1 (mBin .add 3 t17 t1) fun t19=>
 QDo prog C1 (mSlice 9 t13 (some t15) (some t19) none) fun t20=>
 QDo prog C1 (mBuild 58 #[(0,(.int .i64 6)),(1,t7),(2,t11),(4,t20)]) fun t21=>
 ∀w,C1 w →
 DoX prog (mStore 58 t4 t21) w (pk K) fun _ w=>
 RetX prog [.cell t4 58,.val (.int .i64 0)] w K)
theorem S_lex_cutter_mark_eq (t0 t1:Value)(w:World)(K:Ending→World→Prop):wpX prog 22 [] [] none (bodyOf Tryz.f74) (topQ prog [.cell 4 58,.tmp 5] K) (startX [t0,t1]) [] w=S_lex_cutter_mark t0 t1 w K:=by kernel_rfl
theorem S_lex_cutter_mark_ok {t0 t1:Value}{w:World}{K:Ending→World→Prop}(h:S_lex_cutter_mark t0 t1 w K):Calls prog 74 #[t0,t1] w K:=
 calls_of_wpX Tryz.func74 rfl rfl rfl rfl (Eq.mpr (S_lex_cutter_mark_eq t0 t1 w K) h)
def S_lex_refused (t0:Value)(w:World)(K:Ending→World→Prop):Prop:=
 DoX prog (mAlloc 58) w (pk K) fun t2 w=>
 DoX prog (mBuild 58 #[]) w (pk K) fun t4 w=>
 DoX prog (mStore 58 t2 t4) w (pk K) fun _ w=>
 RetX prog [.cell t2 58,.val t0] w K
theorem S_lex_refused_eq (t0:Value)(w:World)(K:Ending→World→Prop):wpX prog 6 [] [] none (bodyOf Tryz.f71) (topQ prog [.cell 2 58,.tmp 3] K) (startX [t0]) [] w=S_lex_refused t0 w K:=by kernel_rfl
theorem S_lex_refused_ok {t0:Value}{w:World}{K:Ending→World→Prop}(h:S_lex_refused t0 w K):Calls prog 71 #[t0] w K:=
 calls_of_wpX Tryz.func71 rfl rfl rfl rfl (Eq.mpr (S_lex_refused_eq t0 w K) h)
def S_lex_cutter_run_0 (t1 t2:Value)(w:World)(N1:List Value→World→Prop)(K:Ending→World→Prop):Prop:=
 DoX prog (mFA 108 t2 0) w (pk K) fun t6 w=>
 DoX prog (mLoad 9 t6) w (pk K) fun t7 w=>
 DoX prog (mB .len #[9] 3 #[false] #[t7]) w (pk K) fun t8 w=>
 DoX prog (mBin .lss 3 t1 t8) w (pk K) fun t9 w=>
 GDo t9 true (fun E=>DoX prog (mFA 108 t2 0) w (pk K) E) w fun t11 w=>
 GDo t9 true (fun E=>DoX prog (mLoad 9 t11) w (pk K) E) w fun t12 w=>
 GDo t9 true (fun E=>E t1 w) w fun t13 w=>
 GDo t9 true (fun E=>DoX prog (mIx 9 t12 t13) w (pk K) E) w fun t14 w=>
 GDo t9 true (fun E=>CallX prog 83 #[t14] w (pk K) E) w fun t15 w=>
 DoX prog (mPick t9 t15 (.bool false)) w (pk K) fun t16 w=>
 IfX t16 (DoX prog (mBin .add 3 t1 (.int .i64 1)) w (pk K) fun t18 w=>
 N1 [t18] w) (K (.returned t1) w)
def S_lex_cutter_run (t0 t1:Value)(w:World)(K:Ending→World→Prop):Prop:=
 DoX prog (mBox 108 t0) w (pk K) fun t2 w=>
 LoopX [t1] w (fun vs1 w N1=>∀_:Sg,S_lex_cutter_run_0 (vs1.getD 0 undef) t2 w N1 K)
theorem S_lex_cutter_run_eq (t0 t1:Value)(w:World)(K:Ending→World→Prop):wpX prog 20 [] [(1,[1])] none (bodyOf Tryz.f118) (topQ prog [.tmp 4] K) (startX [t0,t1]) [] w=S_lex_cutter_run t0 t1 w K:=by kernel_rfl
theorem S_lex_cutter_run_ok {t0 t1:Value}{w:World}{K:Ending→World→Prop}(h:S_lex_cutter_run t0 t1 w K):Calls prog 118 #[t0,t1] w K:=
 calls_of_wpX Tryz.func118 rfl rfl rfl rfl (Eq.mpr (S_lex_cutter_run_eq t0 t1 w K) h)
def S_lex_cutter_told (t0 t1 t2 t3 t4:Value)(w:World)(K:Ending→World→Prop):Prop:=
 DoX prog (mBox 108 t0) w (pk K) fun t5 w=>
 DoX prog (mAlloc 58) w (pk K) fun t10 w=>
 DoX prog (mB .len #[9] 3 #[false] #[t3]) w (pk K) fun t13 w=>
 DoX prog (mBin .gtr 3 t13 t4) w (pk K) fun t15 w=>
 IfX t15 (CallX prog 71 #[(.int .i64 5)] w (pk K) fun t16 w=>
 DoX prog (mExt t16 0) w (pk K) fun t17 w=>
 DoX prog (mExt t16 1) w (pk K) fun t18 w=>
 DoX prog (mStore 58 t10 t17) w (pk K) fun _ w=>
 RetX prog [.cell t10 58,.val t18] w K) (DoX prog (mFA 108 t5 1) w (pk K) fun t20 w=>
 DoX prog (mLoad 3 t20) w (pk K) fun t21 w=>
 DoX prog (mBuild 58 #[(0,t1),(1,t21),(2,t2),(4,t3)]) w (pk K) fun t24 w=>
 DoX prog (mStore 58 t10 t24) w (pk K) fun _ w=>
 RetX prog [.cell t10 58,.val (.int .i64 0)] w K)
theorem S_lex_cutter_told_eq (t0 t1 t2 t3 t4:Value)(w:World)(K:Ending→World→Prop):wpX prog 25 [] [] none (bodyOf Tryz.f116) (topQ prog [.cell 10 58,.tmp 11] K) (startX [t0,t1,t2,t3,t4]) [] w=S_lex_cutter_told t0 t1 t2 t3 t4 w K:=by kernel_rfl
theorem S_lex_cutter_told_ok {t0 t1 t2 t3 t4:Value}{w:World}{K:Ending→World→Prop}(h:S_lex_cutter_told t0 t1 t2 t3 t4 w K):Calls prog 116 #[t0,t1,t2,t3,t4] w K:=
 calls_of_wpX Tryz.func116 rfl rfl rfl rfl (Eq.mpr (S_lex_cutter_told_eq t0 t1 t2 t3 t4 w K) h)
def S_lex_cutter_name_1 (t3 t5 t6 t7:Value)(w:World)(N1:List Value→World→Prop)(K:Ending→World→Prop):Prop:=
 DoX prog (mBuildS 76 1 #[(0,t7)]) w (pk K) fun t62 w=>
 DoX prog (mB .append #[76,76] 76 #[false,false] #[t5,t62]) w (pk K) fun t63 w=>
 DoX prog (mBin .add 3 t6 (.int .i64 1)) w (pk K) fun t22 w=>
 N1 [t3,t63,t22] w
def S_lex_cutter_name_0 (t1 t2 t3 t4 t5 t6:Value)(w:World)(N1:List Value→World→Prop)(K:Ending→World→Prop):Prop:=
 DoX prog (mBin .lss 3 t6 t4) w (pk K) fun t20 w=>
 IfX t20 (DoX prog (mFA 108 t1 0) w (pk K) fun t23 w=>
 DoX prog (mLoad 9 t23) w (pk K) fun t24 w=>
 DoX prog (mIx 9 t24 t6) w (pk K) fun t26 w=>
 JoinX (fun J2=>
 DoX prog (mEq .eql 5 (.tmp 27) (.const (.int .u8 35)) t26 (.int .u8 35)) w (pk K) fun t28 w=>
 IfX t28 (DoX prog (mBin .add 3 t6 (.int .i64 2)) w (pk K) fun t30 w=>
 DoX prog (mBin .geq 3 t30 t4) w (pk K) fun t32 w=>
 IfX t32 (CallX prog 71 #[(.int .i64 3)] w (pk K) fun t33 w=>
 DoX prog (mExt t33 0) w (pk K) fun t34 w=>
 DoX prog (mExt t33 1) w (pk K) fun t35 w=>
 DoX prog (mStore 58 t2 t34) w (pk K) fun _ w=>
 RetX prog [.cell t2 58,.val t35] w K) (DoX prog (mFA 108 t1 0) w (pk K) fun t37 w=>
 DoX prog (mLoad 9 t37) w (pk K) fun t38 w=>
 DoX prog (mBin .add 3 t6 (.int .i64 1)) w (pk K) fun t40 w=>
 DoX prog (mBin .add 3 t6 (.int .i64 3)) w (pk K) fun t42 w=>
 DoX prog (mSlice 9 t38 (some t40) (some t42) none) w (pk K) fun t43 w=>
 CallX prog 119 #[t43] w (pk K) fun t44 w=>
 DoX prog (mExt t44 0) w (pk K) fun t45 w=>
 DoX prog (mExt t44 1) w (pk K) fun t46 w=>
 DoX prog (mEq .neq 30 (.tmp 47) (.const (.int .i64 0)) t46 (.int .i64 0)) w (pk K) fun t48 w=>
 GDo t48 false (fun E=>E t45 w) w fun t50 w=>
 GDo t48 false (fun E=>DoX prog (mEq .eql 9 (.tmp 50) (.const (.string ⟨#[0]⟩)) t50 (.string ⟨#[0]⟩)) w (pk K) E) w fun t51 w=>
 DoX prog (mPick t48 (.bool true) t51) w (pk K) fun t52 w=>
 IfX t52 (CallX prog 71 #[(.int .i64 3)] w (pk K) fun t53 w=>
 DoX prog (mExt t53 0) w (pk K) fun t54 w=>
 DoX prog (mExt t53 1) w (pk K) fun t55 w=>
 DoX prog (mStore 58 t2 t54) w (pk K) fun _ w=>
 RetX prog [.cell t2 58,.val t55] w K) (DoX prog (mIx 9 t45 (.int .i64 0)) w (pk K) fun t57 w=>
 DoX prog (mBin .add 3 t6 (.int .i64 2)) w (pk K) fun t59 w=>
 J2 [t3,t59,t57] w))) (J2 [t3,t6,t26] w)) (fun vs2 w=>∀_:Sg,S_lex_cutter_name_1 (vs2.getD 0 undef) t5 (vs2.getD 1 undef) (vs2.getD 2 undef) w N1 K)) (DoX prog (mLoad 108 t1) w (pk K) fun t64 w=>
 DoX prog (mConv 76 9 t5) w (pk K) fun t67 w=>
 CallX prog 116 #[t64,(.int .i64 4),t4,t67,(.int .i64 127)] w (pk K) fun t68 w=>
 DoX prog (mExt t68 0) w (pk K) fun t69 w=>
 DoX prog (mExt t68 1) w (pk K) fun t70 w=>
 DoX prog (mStore 58 t2 t69) w (pk K) fun _ w=>
 RetX prog [.cell t2 58,.val t70] w K)
def S_lex_cutter_name (t0:Value)(w:World)(K:Ending→World→Prop):Prop:=
 DoX prog (mBox 108 t0) w (pk K) fun t1 w=>
 DoX prog (mAlloc 58) w (pk K) fun t2 w=>
 DoX prog (mLoad 108 t1) w (pk K) fun t10 w=>
 DoX prog (mFA 108 t1 1) w (pk K) fun t11 w=>
 DoX prog (mLoad 3 t11) w (pk K) fun t12 w=>
 DoX prog (mBin .add 3 t12 (.int .i64 1)) w (pk K) fun t13 w=>
 CallX prog 118 #[t10,t13] w (pk K) fun t14 w=>
 DoX prog (mFA 108 t1 1) w (pk K) fun t15 w=>
 DoX prog (mLoad 3 t15) w (pk K) fun t16 w=>
 DoX prog (mBin .add 3 t16 (.int .i64 1)) w (pk K) fun t17 w=>
 LoopX [(.int .i64 0),(.slice none 0 0),t17] w (fun vs1 w N1=>∀_:Sg,S_lex_cutter_name_0 t1 t2 (vs1.getD 0 undef) t14 (vs1.getD 1 undef) (vs1.getD 2 undef) w N1 K)
theorem S_lex_cutter_name_eq (t0:Value)(w:World)(K:Ending→World→Prop):wpX prog 71 [(15,[3,6,7])] [(4,[3,5,6])] none (bodyOf Tryz.f76) (topQ prog [.cell 2 58,.tmp 3] K) (startX [t0]) [] w=S_lex_cutter_name t0 w K:=by kernel_rfl
theorem S_lex_cutter_name_ok {t0:Value}{w:World}{K:Ending→World→Prop}(h:S_lex_cutter_name t0 w K):Calls prog 76 #[t0] w K:=
 calls_of_wpX Tryz.func76 rfl rfl rfl rfl (Eq.mpr (S_lex_cutter_name_eq t0 w K) h)
def S_lex_cutter_end (t0 t1:Value)(w:World)(K:Ending→World→Prop):Prop:=
 DoX prog (mBox 108 t0) w (pk K) fun t2 w=>
 DoX prog (mFA 108 t2 0) w (pk K) fun t6 w=>
 DoX prog (mLoad 9 t6) w (pk K) fun t7 w=>
 DoX prog (mIx 9 t7 t1) w (pk K) fun t9 w=>
 DoX prog (mEq .eql 5 (.tmp 9) (.const (.int .u8 13)) t9 (.int .u8 13)) w (pk K) fun t10 w=>
 GDo t10 false (fun E=>DoX prog (mFA 108 t2 0) w (pk K) E) w fun t12 w=>
 GDo t10 false (fun E=>DoX prog (mLoad 9 t12) w (pk K) E) w fun t13 w=>
 GDo t10 false (fun E=>E t1 w) w fun t14 w=>
 GDo t10 false (fun E=>DoX prog (mIx 9 t13 t14) w (pk K) E) w fun t15 w=>
 GDo t10 false (fun E=>DoX prog (mEq .eql 5 (.tmp 15) (.const (.int .u8 10)) t15 (.int .u8 10)) w (pk K) E) w fun t16 w=>
 DoX prog (mPick t10 (.bool true) t16) w (pk K) fun t17 w=>
 IfX t17 (DoX prog (mFA 108 t2 0) w (pk K) fun t18 w=>
 DoX prog (mLoad 9 t18) w (pk K) fun t19 w=>
 CallX prog 170 #[t19,t1] w (pk K) fun t21 w=>
 K (.returned (.tuple #[t21,(.bool true)])) w) (K (.returned (.tuple #[t1,(.bool false)])) w)
theorem S_lex_cutter_end_eq (t0 t1:Value)(w:World)(K:Ending→World→Prop):wpX prog 23 [] [] none (bodyOf Tryz.f120) (topQ prog [.tmp 4,.tmp 5] K) (startX [t0,t1]) [] w=S_lex_cutter_end t0 t1 w K:=by kernel_rfl
theorem S_lex_cutter_end_ok {t0 t1:Value}{w:World}{K:Ending→World→Prop}(h:S_lex_cutter_end t0 t1 w K):Calls prog 120 #[t0,t1] w K:=
 calls_of_wpX Tryz.func120 rfl rfl rfl rfl (Eq.mpr (S_lex_cutter_end_eq t0 t1 w K) h)
def S_lex_cutter_escaped_0 (t1 t2 t9 t10:Value)(w:World)(N1:List Value→World→Prop)(K:Ending→World→Prop):Prop:=
 DoX prog (mFA 108 t2 0) w (pk K) fun t34 w=>
 DoX prog (mLoad 9 t34) w (pk K) fun t35 w=>
 DoX prog (mB .len #[9] 3 #[false] #[t35]) w (pk K) fun t36 w=>
 DoX prog (mBin .lss 3 t10 t36) w (pk K) fun t37 w=>
 GDo t37 true (fun E=>E t10 w) w fun t39 w=>
 GDo t37 true (fun E=>E t1 w) w fun t40 w=>
 GDo t37 true (fun E=>DoX prog (mBin .add 3 t40 (.int .i64 3)) w (pk K) E) w fun t41 w=>
 GDo t37 true (fun E=>DoX prog (mBin .lss 3 t39 t41) w (pk K) E) w fun t42 w=>
 DoX prog (mPick t37 t42 (.bool false)) w (pk K) fun t43 w=>
 GDo t43 true (fun E=>DoX prog (mFA 108 t2 0) w (pk K) E) w fun t45 w=>
 GDo t43 true (fun E=>DoX prog (mLoad 9 t45) w (pk K) E) w fun t46 w=>
 GDo t43 true (fun E=>E t10 w) w fun t47 w=>
 GDo t43 true (fun E=>DoX prog (mIx 9 t46 t47) w (pk K) E) w fun t48 w=>
 GDo t43 true (fun E=>DoX prog (mBin .geq 5 t48 (.int .u8 48)) w (pk K) E) w fun t49 w=>
 DoX prog (mPick t43 t49 (.bool false)) w (pk K) fun t50 w=>
 GDo t50 true (fun E=>DoX prog (mFA 108 t2 0) w (pk K) E) w fun t52 w=>
 GDo t50 true (fun E=>DoX prog (mLoad 9 t52) w (pk K) E) w fun t53 w=>
 GDo t50 true (fun E=>E t10 w) w fun t54 w=>
 GDo t50 true (fun E=>DoX prog (mIx 9 t53 t54) w (pk K) E) w fun t55 w=>
 GDo t50 true (fun E=>DoX prog (mBin .leq 5 t55 (.int .u8 55)) w (pk K) E) w fun t56 w=>
 DoX prog (mPick t50 t56 (.bool false)) w (pk K) fun t57 w=>
 IfX t57 (DoX prog (mBin .mul 3 (.int .i64 8) t9) w (pk K) fun t59 w=>
 DoX prog (mFA 108 t2 0) w (pk K) fun t60 w=>
 DoX prog (mLoad 9 t60) w (pk K) fun t61 w=>
 DoX prog (mIx 9 t61 t10) w (pk K) fun t63 w=>
 DoX prog (mBin .sub 5 t63 (.int .u8 48)) w (pk K) fun t64 w=>
 DoX prog (mConv 5 3 t64) w (pk K) fun t65 w=>
 DoX prog (mBin .add 3 t59 t65) w (pk K) fun t66 w=>
 DoX prog (mBin .add 3 t10 (.int .i64 1)) w (pk K) fun t68 w=>
 N1 [t66,t68] w) (DoX prog (mBin .gtr 3 t10 t1) w (pk K) fun t71 w=>
 IfX t71 (DoX prog (mConv 3 5 t9) w (pk K) fun t73 w=>
 DoX prog (mBuildS 76 1 #[(0,t73)]) w (pk K) fun t74 w=>
 DoX prog (mConv 76 9 t74) w (pk K) fun t75 w=>
 K (.returned (.tuple #[t75,t10])) w) (DoX prog (mFA 108 t2 0) w (pk K) fun t77 w=>
 DoX prog (mLoad 9 t77) w (pk K) fun t78 w=>
 DoX prog (mBin .add 3 t1 (.int .i64 1)) w (pk K) fun t81 w=>
 DoX prog (mSlice 9 t78 (some t1) (some t81) none) w (pk K) fun t82 w=>
 DoX prog (mBin .add 3 t1 (.int .i64 1)) w (pk K) fun t84 w=>
 K (.returned (.tuple #[t82,t84])) w))
def S_lex_cutter_escaped (t0 t1:Value)(w:World)(K:Ending→World→Prop):Prop:=
 DoX prog (mBox 108 t0) w (pk K) fun t2 w=>
 DoX prog (mFA 108 t2 0) w (pk K) fun t11 w=>
 DoX prog (mLoad 9 t11) w (pk K) fun t12 w=>
 DoX prog (mIx 9 t12 t1) w (pk K) fun t14 w=>
 CallX prog 168 #[(.string ⟨#[110,114,116,98,102]⟩),t14] w (pk K) fun t15 w=>
 DoX prog (mBin .geq 3 t15 (.int .i64 0)) w (pk K) fun t17 w=>
 IfX t17 (DoX prog (mBin .add 3 t15 (.int .i64 1)) w (pk K) fun t20 w=>
 DoX prog (mSlice 9 (.string ⟨#[10,13,9,8,12]⟩) (some t15) (some t20) none) w (pk K) fun t21 w=>
 DoX prog (mBin .add 3 t1 (.int .i64 1)) w (pk K) fun t23 w=>
 K (.returned (.tuple #[t21,t23])) w) (DoX prog (mLoad 108 t2) w (pk K) fun t25 w=>
 CallX prog 120 #[t25,t1] w (pk K) fun t27 w=>
 DoX prog (mExt t27 0) w (pk K) fun t28 w=>
 DoX prog (mExt t27 1) w (pk K) fun t29 w=>
 IfX t29 (K (.returned (.tuple #[(.string ⟨#[]⟩),t28])) w) (LoopX [(.int .i64 0),t1] w (fun vs1 w N1=>∀_:Sg,S_lex_cutter_escaped_0 t1 t2 (vs1.getD 0 undef) (vs1.getD 1 undef) w N1 K)))
theorem S_lex_cutter_escaped_eq (t0 t1:Value)(w:World)(K:Ending→World→Prop):wpX prog 85 [] [(8,[9,10])] none (bodyOf Tryz.f121) (topQ prog [.tmp 4,.tmp 5] K) (startX [t0,t1]) [] w=S_lex_cutter_escaped t0 t1 w K:=by kernel_rfl
theorem S_lex_cutter_escaped_ok {t0 t1:Value}{w:World}{K:Ending→World→Prop}(h:S_lex_cutter_escaped t0 t1 w K):Calls prog 121 #[t0,t1] w K:=
 calls_of_wpX Tryz.func121 rfl rfl rfl rfl (Eq.mpr (S_lex_cutter_escaped_eq t0 t1 w K) h)
def S_lex_cutter_text_1 (t1 t2 t3 t4 t5 t6:Value)(w:World)(N1:List Value→World→Prop)(K:Ending→World→Prop):Prop:=
 DoX prog (mEq .eql 3 (.tmp 63) (.const (.int .i64 0)) t5 (.int .i64 0)) w (pk K) fun t64 w=>
 IfX t64 (QuietX w (fun C3=>
 QDo prog C3 (mLoad 108 t1) fun t65=>
 QDo prog C3 (mBin .add 3 t6 (.int .i64 1)) fun t67=>
 QCall prog C3 51 #[t4] fun t68=>
 QCall prog C3 116 #[t65,(.int .i64 3),t67,t68,(.int .i64 32767)] fun t69=>
 QDo prog C3 (mExt t69 0) fun t70=>
 QDo prog C3 (mExt t69 1) fun t71=>
 ∀w,C3 w →
 DoX prog (mStore 58 t2 t70) w (pk K) fun _ w=>
 RetX prog [.cell t2 58,.val t71] w K)) (DoX prog (mFA 108 t1 0) w (pk K) fun t72 w=>
 DoX prog (mLoad 9 t72) w (pk K) fun t73 w=>
 DoX prog (mIx 9 t73 t6) w (pk K) fun t75 w=>
 CallX prog 84 #[t4,t75] w (pk K) fun t76 w=>
 DoX prog (mBin .add 3 t6 (.int .i64 1)) w (pk K) fun t78 w=>
 N1 [t3,t5,t78] w)
def S_lex_cutter_text_0 (t1 t2 t3 t4 t5 t6:Value)(w:World)(N1:List Value→World→Prop)(K:Ending→World→Prop):Prop:=
 DoX prog (mFA 108 t1 0) w (pk K) fun t16 w=>
 DoX prog (mLoad 9 t16) w (pk K) fun t17 w=>
 DoX prog (mB .len #[9] 3 #[false] #[t17]) w (pk K) fun t18 w=>
 DoX prog (mBin .lss 3 t6 t18) w (pk K) fun t19 w=>
 IfX t19 (DoX prog (mLoad 108 t1) w (pk K) fun t21 w=>
 CallX prog 120 #[t21,t6] w (pk K) fun t23 w=>
 DoX prog (mExt t23 0) w (pk K) fun t24 w=>
 DoX prog (mExt t23 1) w (pk K) fun t25 w=>
 IfX t25 (CallX prog 84 #[t4,(.int .u8 10)] w (pk K) fun t27 w=>
 N1 [t3,t5,t24] w) (JoinX (fun J2=>
 DoX prog (mFA 108 t1 0) w (pk K) fun t29 w=>
 DoX prog (mLoad 9 t29) w (pk K) fun t30 w=>
 DoX prog (mIx 9 t30 t6) w (pk K) fun t32 w=>
 DoX prog (mEq .eql 5 (.tmp 33) (.const (.int .u8 92)) t32 (.int .u8 92)) w (pk K) fun t35 w=>
 IfX t35 (DoX prog (mBin .add 3 t6 (.int .i64 1)) w (pk K) fun t37 w=>
 DoX prog (mFA 108 t1 0) w (pk K) fun t38 w=>
 DoX prog (mLoad 9 t38) w (pk K) fun t39 w=>
 DoX prog (mB .len #[9] 3 #[false] #[t39]) w (pk K) fun t40 w=>
 DoX prog (mEq .eql 3 (.tmp 37) (.tmp 40) t37 t40) w (pk K) fun t41 w=>
 IfX t41 (CallX prog 71 #[(.int .i64 4)] w (pk K) fun t42 w=>
 DoX prog (mExt t42 0) w (pk K) fun t43 w=>
 DoX prog (mExt t42 1) w (pk K) fun t44 w=>
 DoX prog (mStore 58 t2 t43) w (pk K) fun _ w=>
 RetX prog [.cell t2 58,.val t44] w K) (DoX prog (mLoad 108 t1) w (pk K) fun t46 w=>
 DoX prog (mBin .add 3 t6 (.int .i64 1)) w (pk K) fun t48 w=>
 CallX prog 121 #[t46,t48] w (pk K) fun t49 w=>
 DoX prog (mExt t49 0) w (pk K) fun t50 w=>
 DoX prog (mExt t49 1) w (pk K) fun t51 w=>
 CallX prog 43 #[t4,t50] w (pk K) fun t53 w=>
 N1 [t3,t5,t51] w)) (DoX prog (mEq .eql 5 (.tmp 33) (.const (.int .u8 40)) t32 (.int .u8 40)) w (pk K) fun t56 w=>
 IfX t56 (DoX prog (mBin .add 3 t5 (.int .i64 1)) w (pk K) fun t58 w=>
 J2 [t3,t58,t6] w) (DoX prog (mEq .eql 5 (.tmp 33) (.const (.int .u8 41)) t32 (.int .u8 41)) w (pk K) fun t60 w=>
 IfX t60 (DoX prog (mBin .sub 3 t5 (.int .i64 1)) w (pk K) fun t62 w=>
 J2 [t3,t62,t6] w) (J2 [t3,t5,t6] w)))) (fun vs2 w=>∀_:Sg,S_lex_cutter_text_1 t1 t2 (vs2.getD 0 undef) t4 (vs2.getD 1 undef) (vs2.getD 2 undef) w N1 K))) (CallX prog 71 #[(.int .i64 4)] w (pk K) fun t79 w=>
 DoX prog (mExt t79 0) w (pk K) fun t80 w=>
 DoX prog (mExt t79 1) w (pk K) fun t81 w=>
 DoX prog (mStore 58 t2 t80) w (pk K) fun _ w=>
 RetX prog [.cell t2 58,.val t81] w K)
def S_lex_cutter_text (t0:Value)(w:World)(K:Ending→World→Prop):Prop:=
 DoX prog (mBox 108 t0) w (pk K) fun t1 w=>
 DoX prog (mAlloc 58) w (pk K) fun t2 w=>
 DoX prog (mAlloc 78) w (pk K) fun t4 w=>
 DoX prog (mFA 108 t1 1) w (pk K) fun t12 w=>
 DoX prog (mLoad 3 t12) w (pk K) fun t13 w=>
 DoX prog (mBin .add 3 t13 (.int .i64 1)) w (pk K) fun t14 w=>
 LoopX [(.int .i64 0),(.int .i64 1),t14] w (fun vs1 w N1=>∀_:Sg,S_lex_cutter_text_0 t1 t2 (vs1.getD 0 undef) t4 (vs1.getD 1 undef) (vs1.getD 2 undef) w N1 K)
theorem S_lex_cutter_text_eq (t0:Value)(w:World)(K:Ending→World→Prop):wpX prog 82 [(21,[3,5,6])] [(4,[3,5,6])] none (bodyOf Tryz.f77) (topQ prog [.cell 2 58,.tmp 3] K) (startX [t0]) [] w=S_lex_cutter_text t0 w K:=by kernel_rfl
theorem S_lex_cutter_text_ok {t0:Value}{w:World}{K:Ending→World→Prop}(h:S_lex_cutter_text t0 w K):Calls prog 77 #[t0] w K:=
 calls_of_wpX Tryz.func77 rfl rfl rfl rfl (Eq.mpr (S_lex_cutter_text_eq t0 w K) h)
def S_lex_cutter_hex_2 (t3 t4 t5 t6:Value)(w:World)(N1:List Value→World→Prop)(K:Ending→World→Prop):Prop:=
 DoX prog (mBin .add 3 t6 (.int .i64 1)) w (pk K) fun t18 w=>
 N1 [t3,t4,t5,t18] w
def S_lex_cutter_hex_1 (t1 t2 t4 t6:Value)(w:World)(K:Ending→World→Prop):Prop:=
 DoX prog (mLoad 108 t1) w (pk K) fun t33 w=>
 DoX prog (mBin .add 3 t6 (.int .i64 1)) w (pk K) fun t35 w=>
 DoX prog (mConv 76 9 t4) w (pk K) fun t37 w=>
 CallX prog 116 #[t33,(.int .i64 3),t35,t37,(.int .i64 32767)] w (pk K) fun t38 w=>
 DoX prog (mExt t38 0) w (pk K) fun t39 w=>
 DoX prog (mExt t38 1) w (pk K) fun t40 w=>
 DoX prog (mStore 58 t2 t39) w (pk K) fun _ w=>
 RetX prog [.cell t2 58,.val t40] w K
def S_lex_cutter_hex_0 (t1 t2 t3 t4 t5 t6:Value)(w:World)(N1:List Value→World→Prop)(K:Ending→World→Prop):Prop:=
 DoX prog (mFA 108 t1 0) w (pk K) fun t13 w=>
 DoX prog (mLoad 9 t13) w (pk K) fun t14 w=>
 DoX prog (mB .len #[9] 3 #[false] #[t14]) w (pk K) fun t15 w=>
 DoX prog (mBin .lss 3 t6 t15) w (pk K) fun t16 w=>
 IfX t16 (JoinX (fun J2=>
 DoX prog (mFA 108 t1 0) w (pk K) fun t19 w=>
 DoX prog (mLoad 9 t19) w (pk K) fun t20 w=>
 DoX prog (mIx 9 t20 t6) w (pk K) fun t22 w=>
 DoX prog (mEq .eql 5 (.tmp 23) (.const (.int .u8 62)) t22 (.int .u8 62)) w (pk K) fun t24 w=>
 IfX t24 (JoinX (fun J3=>
 DoX prog (mBin .geq 3 t5 (.int .i64 0)) w (pk K) fun t26 w=>
 IfX t26 (DoX prog (mBin .shl 3 t5 (.int .u64 4)) w (pk K) fun t29 w=>
 DoX prog (mConv 3 5 t29) w (pk K) fun t30 w=>
 DoX prog (mBuildS 76 1 #[(0,t30)]) w (pk K) fun t31 w=>
 DoX prog (mB .append #[76,76] 76 #[false,false] #[t4,t31]) w (pk K) fun t32 w=>
 J3 [t32] w) (J3 [t4] w)) (fun vs3 w=>∀_:Sg,S_lex_cutter_hex_1 t1 t2 (vs3.getD 0 undef) t6 w K)) (CallX prog 117 #[t22] w (pk K) fun t42 w=>
 CallX prog 114 #[t22] w (pk K) fun t53 w=>
 IfX t53 (J2 [t3,t4,t5] w) (DoX prog (mBin .lss 3 t42 (.int .i64 0)) w (pk K) fun t56 w=>
 IfX t56 (CallX prog 71 #[(.int .i64 3)] w (pk K) fun t57 w=>
 DoX prog (mExt t57 0) w (pk K) fun t58 w=>
 DoX prog (mExt t57 1) w (pk K) fun t59 w=>
 DoX prog (mStore 58 t2 t58) w (pk K) fun _ w=>
 RetX prog [.cell t2 58,.val t59] w K) (DoX prog (mBin .lss 3 t5 (.int .i64 0)) w (pk K) fun t62 w=>
 IfX t62 (J2 [t3,t4,t42] w) (DoX prog (mBin .shl 3 t5 (.int .u64 4)) w (pk K) fun t45 w=>
 DoX prog (mBin .or 3 t45 t42) w (pk K) fun t47 w=>
 DoX prog (mConv 3 5 t47) w (pk K) fun t48 w=>
 DoX prog (mBuildS 76 1 #[(0,t48)]) w (pk K) fun t49 w=>
 DoX prog (mB .append #[76,76] 76 #[false,false] #[t4,t49]) w (pk K) fun t50 w=>
 J2 [t3,t50,(.int .i64 (-1))] w))))) (fun vs2 w=>∀_:Sg,S_lex_cutter_hex_2 (vs2.getD 0 undef) (vs2.getD 1 undef) (vs2.getD 2 undef) t6 w N1 K)) (CallX prog 71 #[(.int .i64 4)] w (pk K) fun t64 w=>
 DoX prog (mExt t64 0) w (pk K) fun t65 w=>
 DoX prog (mExt t64 1) w (pk K) fun t66 w=>
 DoX prog (mStore 58 t2 t65) w (pk K) fun _ w=>
 RetX prog [.cell t2 58,.val t66] w K)
def S_lex_cutter_hex (t0:Value)(w:World)(K:Ending→World→Prop):Prop:=
 DoX prog (mBox 108 t0) w (pk K) fun t1 w=>
 DoX prog (mAlloc 58) w (pk K) fun t2 w=>
 DoX prog (mFA 108 t1 1) w (pk K) fun t9 w=>
 DoX prog (mLoad 3 t9) w (pk K) fun t10 w=>
 DoX prog (mBin .add 3 t10 (.int .i64 1)) w (pk K) fun t11 w=>
 LoopX [(.int .i64 0),(.slice none 0 0),(.int .i64 (-1)),t11] w (fun vs1 w N1=>∀_:Sg,S_lex_cutter_hex_0 t1 t2 (vs1.getD 0 undef) (vs1.getD 1 undef) (vs1.getD 2 undef) (vs1.getD 3 undef) w N1 K)
theorem S_lex_cutter_hex_eq (t0:Value)(w:World)(K:Ending→World→Prop):wpX prog 67 [(5,[3,4,5]),(10,[4])] [(4,[3,4,5,6])] none (bodyOf Tryz.f75) (topQ prog [.cell 2 58,.tmp 3] K) (startX [t0]) [] w=S_lex_cutter_hex t0 w K:=by kernel_rfl
theorem S_lex_cutter_hex_ok {t0:Value}{w:World}{K:Ending→World→Prop}(h:S_lex_cutter_hex t0 w K):Calls prog 75 #[t0] w K:=
 calls_of_wpX Tryz.func75 rfl rfl rfl rfl (Eq.mpr (S_lex_cutter_hex_eq t0 w K) h)
def S_lex_class (t0:Value)(w:World)(K:Ending→World→Prop):Prop:=
 CallX prog 171 #[t0,(.string ⟨#[43,45]⟩)] w (pk K) fun t5 w=>
 DoX prog (mB .len #[9] 3 #[false] #[t0]) w (pk K) fun t7 w=>
 DoX prog (mB .len #[9] 3 #[false] #[t5]) w (pk K) fun t9 w=>
 DoX prog (mBin .sub 3 t7 t9) w (pk K) fun t10 w=>
 DoX prog (mBin .leq 3 t10 (.int .i64 1)) w (pk K) fun t11 w=>
 GDo t11 true (fun E=>E t5 w) w fun t13 w=>
 GDo t11 true (fun E=>DoX prog (mEq .neq 9 (.tmp 13) (.const (.string ⟨#[]⟩)) t13 (.string ⟨#[]⟩)) w (pk K) E) w fun t14 w=>
 DoX prog (mPick t11 t14 (.bool false)) w (pk K) fun t15 w=>
 GDo t15 true (fun E=>E t5 w) w fun t17 w=>
 GDo t15 true (fun E=>CallX prog 172 #[t17,(.string ⟨#[48,49,50,51,52,53,54,55,56,57]⟩)] w (pk K) E) w fun t18 w=>
 GDo t15 true (fun E=>DoX prog (mEq .eql 9 (.tmp 18) (.const (.string ⟨#[]⟩)) t18 (.string ⟨#[]⟩)) w (pk K) E) w fun t19 w=>
 DoX prog (mPick t15 t19 (.bool false)) w (pk K) fun t20 w=>
 IfX t20 (K (.returned (.int .i64 1)) w) (CallX prog 173 #[t0,(.string ⟨#[46]⟩)] w (pk K) fun t22 w=>
 IfX t22 (K (.returned (.int .i64 2)) w) (K (.returned (.int .i64 0)) w))
theorem S_lex_class_eq (t0:Value)(w:World)(K:Ending→World→Prop):wpX prog 23 [] [] none (bodyOf Tryz.f122) (topQ prog [.tmp 2] K) (startX [t0]) [] w=S_lex_class t0 w K:=by kernel_rfl
theorem S_lex_class_ok {t0:Value}{w:World}{K:Ending→World→Prop}(h:S_lex_class t0 w K):Calls prog 122 #[t0] w K:=
 calls_of_wpX Tryz.func122 rfl rfl rfl rfl (Eq.mpr (S_lex_class_eq t0 w K) h)
def S_lex_whole_1 (t4:Value)(w:World)(K:Ending→World→Prop):Prop:=
 K (.returned (.tuple #[t4,(.int .i64 0)])) w
def S_lex_whole_0 (t0 t4 t9:Value)(w:World)(N1:List Value→World→Prop)(K:Ending→World→Prop):Prop:=
 DoX prog (mNext t9 true 0) w (pk K) fun t10 w=>
 DoX prog (mExt t10 0) w (pk K) fun t11 w=>
 IfX t11 (DoX prog (mExt t10 2) w (pk K) fun t12 w=>
 DoX prog (mBin .mul 2 (.int .i64 10) t4) w (pk K) fun t14 w=>
 DoX prog (mBin .sub 21 t12 (.int .i32 48)) w (pk K) fun t16 w=>
 DoX prog (mConv 21 2 t16) w (pk K) fun t17 w=>
 DoX prog (mBin .add 2 t14 t17) w (pk K) fun t18 w=>
 DoX prog (mB .min #[2,2] 2 #[false,true] #[t18,(.int .i64 2147483648)]) w (pk K) fun t19 w=>
 N1 [t19] w) (DoX prog (mBin .gtr 2 t4 (.int .i64 2147483647)) w (pk K) fun t21 w=>
 IfX t21 (K (.returned (.tuple #[(.int .i64 0),(.int .i64 2)])) w) (JoinX (fun J2=>
 DoX prog (mIx 9 t0 (.int .i64 0)) w (pk K) fun t23 w=>
 DoX prog (mEq .eql 5 (.tmp 23) (.const (.int .u8 45)) t23 (.int .u8 45)) w (pk K) fun t24 w=>
 IfX t24 (DoX prog (mUn .neg t4) w (pk K) fun t26 w=>
 J2 [t26] w) (J2 [t4] w)) (fun vs2 w=>∀_:Sg,S_lex_whole_1 (vs2.getD 0 undef) w K)))
def S_lex_whole (t0:Value)(w:World)(K:Ending→World→Prop):Prop:=
 CallX prog 171 #[t0,(.string ⟨#[43,45]⟩)] w (pk K) fun t8 w=>
 DoX prog (mRange 9 t8) w (pk K) fun t9 w=>
 LoopX [(.int .i64 0)] w (fun vs1 w N1=>∀_:Sg,S_lex_whole_0 t0 (vs1.getD 0 undef) t9 w N1 K)
theorem S_lex_whole_eq (t0:Value)(w:World)(K:Ending→World→Prop):wpX prog 28 [(10,[4])] [(3,[4])] none (bodyOf Tryz.f123) (topQ prog [.tmp 2,.tmp 3] K) (startX [t0]) [] w=S_lex_whole t0 w K:=by kernel_rfl
theorem S_lex_whole_ok {t0:Value}{w:World}{K:Ending→World→Prop}(h:S_lex_whole t0 w K):Calls prog 123 #[t0] w K:=
 calls_of_wpX Tryz.func123 rfl rfl rfl rfl (Eq.mpr (S_lex_whole_eq t0 w K) h)
def S_lex_cutter_word_0 (t1 t2 t4 t5:Value)(w:World)(K:Ending→World→Prop):Prop:=
 DoX prog (mLoad 108 t1) w (pk K) fun t61 w=>
 CallX prog 116 #[t61,(.int .i64 5),t4,t5,(.int .i64 127)] w (pk K) fun t64 w=>
 DoX prog (mExt t64 0) w (pk K) fun t65 w=>
 DoX prog (mExt t64 1) w (pk K) fun t66 w=>
 DoX prog (mStore 58 t2 t65) w (pk K) fun _ w=>
 RetX prog [.cell t2 58,.val t66] w K
def S_lex_cutter_word (t0:Value)(w:World)(K:Ending→World→Prop):Prop:=
 DoX prog (mBox 108 t0) w (pk K) fun t1 w=>
 DoX prog (mAlloc 58) w (pk K) fun t2 w=>
 DoX prog (mLoad 108 t1) w (pk K) fun t10 w=>
 DoX prog (mFA 108 t1 1) w (pk K) fun t11 w=>
 DoX prog (mLoad 3 t11) w (pk K) fun t12 w=>
 CallX prog 118 #[t10,t12] w (pk K) fun t13 w=>
 DoX prog (mFA 108 t1 0) w (pk K) fun t14 w=>
 DoX prog (mLoad 9 t14) w (pk K) fun t15 w=>
 DoX prog (mFA 108 t1 1) w (pk K) fun t16 w=>
 DoX prog (mLoad 3 t16) w (pk K) fun t17 w=>
 DoX prog (mSlice 9 t15 (some t17) (some t13) none) w (pk K) fun t19 w=>
 JoinX (fun J1=>
 CallX prog 122 #[t19] w (pk K) fun t21 w=>
 DoX prog (mEq .eql 3 (.tmp 21) (.const (.int .i64 1)) t21 (.int .i64 1)) w (pk K) fun t23 w=>
 IfX t23 (CallX prog 123 #[t19] w (pk K) fun t26 w=>
 DoX prog (mExt t26 0) w (pk K) fun t27 w=>
 DoX prog (mExt t26 1) w (pk K) fun t28 w=>
 DoX prog (mEq .neq 30 (.tmp 29) (.const (.int .i64 0)) t28 (.int .i64 0)) w (pk K) fun t30 w=>
 IfX t30 (CallX prog 71 #[t28] w (pk K) fun t32 w=>
 DoX prog (mExt t32 0) w (pk K) fun t33 w=>
 DoX prog (mExt t32 1) w (pk K) fun t34 w=>
 DoX prog (mStore 58 t2 t33) w (pk K) fun _ w=>
 RetX prog [.cell t2 58,.val t34] w K) (DoX prog (mFA 108 t1 1) w (pk K) fun t35 w=>
 DoX prog (mLoad 3 t35) w (pk K) fun t36 w=>
 DoX prog (mBuild 58 #[(0,(.int .i64 1)),(1,t36),(2,t13),(3,t27)]) w (pk K) fun t39 w=>
 DoX prog (mStore 58 t2 t39) w (pk K) fun _ w=>
 RetX prog [.cell t2 58,.val (.int .i64 0)] w K)) (DoX prog (mEq .eql 3 (.tmp 21) (.const (.int .i64 2)) t21 (.int .i64 2)) w (pk K) fun t41 w=>
 IfX t41 (CallX prog 124 #[t19] w (pk K) fun t44 w=>
 DoX prog (mExt t44 0) w (pk K) fun t45 w=>
 DoX prog (mExt t44 1) w (pk K) fun t46 w=>
 DoX prog (mEq .eql 30 (.tmp 47) (.const (.int .i64 0)) t46 (.int .i64 0)) w (pk K) fun t49 w=>
 IfX t49 (DoX prog (mFA 108 t1 1) w (pk K) fun t50 w=>
 DoX prog (mLoad 3 t50) w (pk K) fun t51 w=>
 DoX prog (mBuild 58 #[(0,(.int .i64 2)),(1,t51),(2,t13),(3,t45)]) w (pk K) fun t54 w=>
 DoX prog (mStore 58 t2 t54) w (pk K) fun _ w=>
 RetX prog [.cell t2 58,.val (.int .i64 0)] w K) (DoX prog (mEq .eql 30 (.tmp 47) (.const (.int .i64 2)) t46 (.int .i64 2)) w (pk K) fun t56 w=>
 IfX t56 (CallX prog 71 #[t46] w (pk K) fun t58 w=>
 DoX prog (mExt t58 0) w (pk K) fun t59 w=>
 DoX prog (mExt t58 1) w (pk K) fun t60 w=>
 DoX prog (mStore 58 t2 t59) w (pk K) fun _ w=>
 RetX prog [.cell t2 58,.val t60] w K) (J1 [(.int .i64 0)] w))) (J1 [(.int .i64 0)] w))) (fun vs1 w=>∀_:Sg,S_lex_cutter_word_0 t1 t2 t13 t19 w K)
theorem S_lex_cutter_word_eq (t0:Value)(w:World)(K:Ending→World→Prop):wpX prog 67 [(16,[3])] [] none (bodyOf Tryz.f78) (topQ prog [.cell 2 58,.tmp 3] K) (startX [t0]) [] w=S_lex_cutter_word t0 w K:=by kernel_rfl
theorem S_lex_cutter_word_ok {t0:Value}{w:World}{K:Ending→World→Prop}(h:S_lex_cutter_word t0 w K):Calls prog 78 #[t0] w K:=
 calls_of_wpX Tryz.func78 rfl rfl rfl rfl (Eq.mpr (S_lex_cutter_word_eq t0 w K) h)
end
section
open Eng Go.RowKit
def tokC (x:Lx.Tok):List Value:=[.int .i64 x.k,.int .i64 x.a,.int .i64 x.t,.int .i64 x.n,.string ⟨x.s.toArray⟩]
def tokV (x:Lx.Tok):Value:=.agg (tokC x).toArray
def tokR (r:Lx.Tok×Int):Value:=.tuple #[tokV r.1,.int .i64 r.2]
def cutC (s:List UInt8)(a:Int):List Value:=[.string ⟨s.toArray⟩,.int .i64 a]
def cutV (s:List UInt8)(a:Int):Value:=.agg (cutC s a).toArray
def cutE (b:Nat)(s:List UInt8)(a:Int):Ent:=.cells b (cutC s a) 108
def tokE (b:Nat)(x:Lx.Tok):Ent:=.cells b (tokC x) 58
theorem aggTok:aggN prog 58=some 5:=by kernel_rfl
theorem aggCut:aggN prog 108=some 2:=by kernel_rfl
theorem nStr:notAgg prog 9=true:=by kernel_rfl
theorem nInt:notAgg prog 3=true:=by kernel_rfl
theorem szTok:(Tryz.prog.info? 58).map (·.size)=some 5:=by kernel_rfl
section
variable {w:World}{PK:PKT}{K:VWP}{S:Nat→Prop}{w0:World}{L:List Ent}
theorem fa_c0 {b:Nat}:DoX prog (mFA 108 (.pointer (some ⟨b,0,none⟩)) 0) w PK K=K (.pointer (some ⟨b,0,none⟩)) w:=f_addr (show fOff prog 108 0=some 0 by kernel_rfl)
theorem fa_c1 {b:Nat}:DoX prog (mFA 108 (.pointer (some ⟨b,0,none⟩)) 1) w PK K=K (.pointer (some ⟨b,1,none⟩)) w:=f_addr (show fOff prog 108 1=some 1 by kernel_rfl)
theorem cut_s (ho:OwnS S w0 w L)(i:Nat){b:Nat}{s:List UInt8}{a:Int}(hi:L[i]?=some (cutE b s a)):DoX prog (mLoad 9 (.pointer (some ⟨b,0,none⟩))) w PK K=K (.string ⟨s.toArray⟩) w:=l_cell nStr (ho.cell i hi 0 rfl)
theorem cut_a (ho:OwnS S w0 w L)(i:Nat){b:Nat}{s:List UInt8}{a:Int}(hi:L[i]?=some (cutE b s a)):DoX prog (mLoad 3 (.pointer (some ⟨b,1,none⟩))) w PK K=K (.int .i64 a) w:=l_cell nInt (ho.cell i hi 1 rfl)
theorem cut_v (ho:OwnS S w0 w L)(i:Nat){b:Nat}{s:List UInt8}{a:Int}(hi:L[i]?=some (cutE b s a)):DoX prog (mLoad 108 (.pointer (some ⟨b,0,none⟩))) w PK K=K (cutV s a) w:=l_at (ho.agg i hi aggCut)
theorem cutr_s (ho:OwnS S w0 w L)(i:Nat){b:Nat}{s:List UInt8}{a:Int}(hi:L[i]?=some (cutE b s a)):(mLoad 9 (.pointer (some ⟨b,0,none⟩))).run prog w=.ok (.value (.string ⟨s.toArray⟩)) w:=run_load_cell nStr (ho.cell i hi 0 rfl)
theorem cutr_a (ho:OwnS S w0 w L)(i:Nat){b:Nat}{s:List UInt8}{a:Int}(hi:L[i]?=some (cutE b s a)):(mLoad 3 (.pointer (some ⟨b,1,none⟩))).run prog w=.ok (.value (.int .i64 a)) w:=run_load_cell nInt (ho.cell i hi 1 rfl)
theorem cutr_v (ho:OwnS S w0 w L)(i:Nat){b:Nat}{s:List UInt8}{a:Int}(hi:L[i]?=some (cutE b s a)):(mLoad 108 (.pointer (some ⟨b,0,none⟩))).run prog w=.ok (.value (cutV s a)) w:=run_load_at (ho.agg i hi aggCut)
theorem o_cut (s:List UInt8)(a:Int)(ho:OwnS S w0 w L)(k:∀b w',OwnS S w0 w' (cutE b s a::L)→K (.pointer (some ⟨b,0,none⟩)) w'):DoX prog (mBox 108 (cutV s a)) w PK K:=
 o_new (fun b=>.pointer (some ⟨b,0,none⟩)) (cutC s a) 108 (fun _=>by kernel_rfl) ho k
theorem o_tok (ho:OwnS S w0 w L)(k:∀b w',OwnS S w0 w' (tokE b Lx.none_::L)→K (.pointer (some ⟨b,0,none⟩)) w'):DoX prog (mAlloc 58) w PK K:=
 o_new (fun b=>.pointer (some ⟨b,0,none⟩)) (tokC Lx.none_) 58 (fun _=>by kernel_rfl) ho k
theorem tokC_one (x:Lx.Tok):∀v∈tokC x,v.oneCell'=true:=by
 intro v hv;simp only[tokC,List.mem_cons,List.not_mem_nil,or_false] at hv;rcases hv with rfl|rfl|rfl|rfl|rfl<;>rfl
theorem tok_put {KE:Ending→World→Prop}(i:Nat){b:Nat}{x y:Lx.Tok}{e:Int}(ho:Own w0 w L)(hi:L[i]?=some (tokE b x))(k:∀w',Own w0 w' (L.set i (tokE b y))→KE (.returned (tokR (y,e))) w') :
  DoX prog (mStore 58 (.pointer (some ⟨b,0,none⟩)) (tokV y)) w PK fun _ w=>RetX prog [.cell (.pointer (some ⟨b,0,none⟩)) 58,.val (.int .i64 e)] w KE:=by
 refine o_put i ho hi (new:=tokC y) szTok (tokC_one y) rfl fun w' ho'=>?_;have hi':(L.set i (tokE b y))[i]?=some (tokE b y):=by
  have:=(List.getElem?_eq_some_iff.1 hi).1;simp[this]
 exact ret_v2 (rv_cell (ho'.agg i hi' aggTok)) rv_val (k w' ho')
theorem run_ext0 {a b:Value}:(mExt (.tuple #[a,b]) 0).run prog w=.ok (.value a) w:=by kernel_rfl
theorem run_ext1 {a b:Value}:(mExt (.tuple #[a,b]) 1).run prog w=.ok (.value b) w:=by kernel_rfl
theorem x_0 {a b:Value}:DoX prog (mExt (.tuple #[a,b]) 0) w PK K=K a w:=do_eq (by kernel_rfl)
theorem x_1 {a b:Value}:DoX prog (mExt (.tuple #[a,b]) 1) w PK K=K b w:=do_eq (by kernel_rfl)
theorem tok_tail {KE:Ending→World→Prop}{PK1 PK2 PK3 PK4:PKT}(i:Nat){b:Nat}{x:Lx.Tok}{r:Lx.Tok×Int}{f:Nat}{args:Array Value}(ho:Own w0 w L)(hi:L[i]?=some (tokE b x))
  (h:Ret prog f args w (fun v w'=>v=tokR r∧Below w.heap.size w w')) (k:∀w',Below w0.heap.size w0 w'→KE (.returned (tokR r)) w') :
  CallX prog f args w PK1 fun t w=>DoX prog (mExt t 0) w PK2 fun u w=>DoX prog (mExt t 1) w PK3 fun v w=>DoX prog (mStore 58 (.pointer (some ⟨b,0,none⟩)) u) w PK4 fun _ w=>RetX prog [.cell (.pointer (some ⟨b,0,none⟩)) 58,.val v] w KE:=by
 refine c_below ho h ?_;rintro v w' rfl ho';rw[tokR,x_0,x_1];exact tok_put i ho' hi fun w' ho=>k w' ho.done
theorem m_tok0:DoX prog (mBuild 58 #[]) w PK K=K (tokV Lx.none_) w:=do_eq (by kernel_rfl)
theorem m_tok2 {a t:Int}:DoX prog (mBuild 58 #[(1,.int .i64 a),(2,.int .i64 t)]) w PK K=K (tokV ⟨0,a,t,0,[]⟩) w:=do_eq (by kernel_rfl)
theorem m_tok4 {k a t:Int}{s:List UInt8}:DoX prog (mBuild 58 #[(0,.int .i64 k),(1,.int .i64 a),(2,.int .i64 t),(4,.string ⟨s.toArray⟩)]) w PK K=K (tokV ⟨k,a,t,0,s⟩) w:=do_eq (by kernel_rfl)
theorem r_tok4 {k a t:Int}{s:List UInt8}:(mBuild 58 #[(0,.int .i64 k),(1,.int .i64 a),(2,.int .i64 t),(4,.string ⟨s.toArray⟩)]).run prog w=.ok (.value (tokV ⟨k,a,t,0,s⟩)) w:=by kernel_rfl
theorem m_tokn {k a t n:Int}:DoX prog (mBuild 58 #[(0,.int .i64 k),(1,.int .i64 a),(2,.int .i64 t),(3,.int .i64 n)]) w PK K=K (tokV ⟨k,a,t,n,[]⟩) w:=do_eq (by kernel_rfl)
end
theorem refused_ret (e:Int)(w:World):Ret prog 71 #[.int .i64 e] w (fun v w'=>v=tokR (Lx.refused e)∧Below w.heap.size w w'):=by
 refine ret_of fun K hK=>S_lex_refused_ok ?_;unfold S_lex_refused;refine o_tok (Own.start w) fun b w1 ho=>?_;rw[m_tok0];exact tok_put 0 ho rfl fun w' ho=>hK _ _ ⟨rfl,ho.done⟩
theorem told_ret (s:List UInt8)(a k t:Int)(x:List UInt8)(most:Int)(w:World):Ret prog 116 #[cutV s a,.int .i64 k,.int .i64 t,.string ⟨x.toArray⟩,.int .i64 most] w (fun v w'=>v=tokR (Lx.told k a t x most)∧Below w.heap.size w w'):=by
 refine ret_of fun K hK=>S_lex_cutter_told_ok ?_;unfold S_lex_cutter_told;refine o_cut s a (Own.start w) fun b1 w1 ho=>?_;refine o_tok ho fun b w2 ho=>?_;by_cases h:most < (x.length:Int)
 ·simp only[rs,s_len Tryz.underlying9,h,decide_true];exact tok_tail 0 ho rfl (refused_ret 5 _) fun w' hb=>hK _ _ ⟨by rw[Lx.told,if_pos h],hb⟩
 ·simp only[rs,s_len Tryz.underlying9,h,decide_false,fa_c1,cut_a ho 1 rfl,m_tok4];exact tok_put 0 ho rfl fun w' ho=>hK _ _ ⟨by rw[Lx.told,if_neg h],ho.done⟩
theorem mark_ret (s:List UInt8)(a n:Nat)(w:World)(hs:s.length≤1099511627776)(h:a+n≤s.length):Ret prog 74 #[cutV s a,.int .i64 n] w (fun v w'=>v=tokR (Lx.mark s a n)∧Below w.heap.size w w'):=by
 refine ret_of fun K hK=>S_lex_cutter_mark_ok ?_;unfold S_lex_cutter_mark;refine o_cut s a (Own.start w) fun b1 w1 ho=>?_;refine o_tok ho fun b w2 ho=>?_;have f1:fOff prog 108 1=some 1:=by kernel_rfl
 have f0:fOff prog 108 0=some 0:=by kernel_rfl
 have hw:IntKind.wrap .i64 ((a:Int)+(n:Int))=((a+n:Nat):Int):=by rw[wrap64_id (by omega) (by omega)];simp
 refine quiet (q_do _ (fun _=>run_fa f1) (q_at _ (fun _ hb=>cutr_a (ho.grow hb) 1 rfl) (q_do _ (fun _=>run_fa f1) (q_at _ (fun _ hb=>cutr_a (ho.grow hb) 1 rfl) (q_do _ (fun _=>by rw[r_add,hw]) ?_)))));refine q_do _ (fun _=>run_fa f0) (q_at _ (fun _ hb=>cutr_s (ho.grow hb) 1 rfl) (q_do _ (fun _=>run_fa f1) (q_at _ (fun _ hb=>cutr_a (ho.grow hb) 1 rfl) (q_do _ (fun _=>run_fa f1) (q_at _ (fun _ hb=>cutr_a (ho.grow hb) 1 rfl) (q_do _ (fun _=>by rw[r_add,hw]) ?_))))));refine q_do (.string ⟨(Lx.cut s a (a+n)).toArray⟩) (fun w=>?_) (q_do _ (fun _=>r_tok4) ?_)
 ·have:=@run_s_slice prog w 9 s .i64 .i64 (a:Int) ((a+n:Nat):Int) Tryz.underlying9 (by omega) (by omega) (by omega);rw[this];rfl
 ·intro w3 hb;exact tok_put 0 (ho.grow hb) rfl fun w' ho=>hK _ _ ⟨rfl,ho.done⟩
theorem run_ret (s:List UInt8)(a:Int)(i:Nat)(w:World)(hs:s.length≤1099511627776)(h:i≤s.length):Ret prog 118 #[cutV s a,.int .i64 i] w (fun v w'=>v=.int .i64 (Lx.run s i)∧Below w.heap.size w w'):=by
 refine ret_of fun K hK=>S_lex_cutter_run_ok ?_;unfold S_lex_cutter_run;refine o_cut s a (Own.start w) fun b1 w1 ho=>?_;refine loop (fun vs w'=>∃(j:Nat),vs=[.int .i64 j]∧j≤s.length∧Lx.run s j=Lx.run s i∧w1=w') (fun vs _=>s.length - n0 vs) ⟨i,rfl,h,rfl,rfl⟩ ?_;rintro vs w2 ⟨j,rfl,hj,he,rfl⟩ _;simp only[S_lex_cutter_run_0,gd,fa_c0,cut_s ho 0 rfl,s_len Tryz.underlying9];rw[b_lss];by_cases hlt:(j:Int) < (s.length:Int)
 ·have hi2:j < s.length:=by omega
  have hd:=Lx.drop_cons hi2;have hx:∀{PK K},DoX prog (mIx 9 (.string ⟨s.toArray⟩) (.int .i64 (j:Int))) w1 PK K=K (.int .u8 (s[j].toNat:Int)) w1:=s_ix (c:=s[j]) Tryz.underlying9 (Int.natCast_nonneg j) (by simp[hi2]);simp only[hlt,decide_true,rs,fa_c0,cut_s ho 0 rfl,hx];refine c_eq (regular_ret s[j] w1) ?_;cases hr:Oc.regular s[j] with
 |true=>
   simp only[rs];rw[wrap64_id (by omega) (by omega)];refine nextX ⟨j+1,rfl,by omega,?_,rfl⟩ (by simp[n0,RowKit.intOf];omega);rw[←he,Lx.run,Lx.run,hd,Lx.runF,if_pos hr];omega
 |false=>
   simp only[rs];refine hK _ _ ⟨?_,ho.done⟩;rw[←he,Lx.run,hd,Lx.runF,if_neg (by simp[hr])];simp
 ·have hi2:j=s.length:=by omega
  subst hi2;simp only[hlt,decide_false,rs,g_un];refine hK _ _ ⟨?_,ho.done⟩;rw[←he,Lx.run,List.drop_length];simp[Lx.runF]
theorem end_ret (s:List UInt8)(a:Int)(i:Nat)(w:World)(hs:s.length≤1099511627776)(h:i < s.length):Ret prog 120 #[cutV s a,.int .i64 i] w (fun v w'=>v=.tuple #[.int .i64 (if Lx.eol s[i] then (Lx.line s i:Int) else (i:Int)),.bool (Lx.eol s[i])]∧Below w.heap.size w w'):=by
 refine ret_of fun K hK=>S_lex_cutter_end_ok ?_;unfold S_lex_cutter_end;refine o_cut s a (Own.start w) fun b1 w1 ho=>?_;have hx:∀{PK K},DoX prog (mIx 9 (.string ⟨s.toArray⟩) (.int .i64 (i:Int))) w1 PK K=K (.int .u8 (s[i].toNat:Int)) w1:=s_ix (c:=s[i]) Tryz.underlying9 (Int.natCast_nonneg i) (by simp[h]);have e1:=u8d s[i] 13 13 rfl;have e2:=u8d s[i] 10 10 rfl;have fin:∀e:Lx.eol s[i]=true,CallX prog 170 #[.string ⟨s.toArray⟩,.int .i64 i] w1 (pk K) fun t21 w=>K (.returned (.tuple #[t21,(.bool true)])) w:=by
  intro e;refine c_eq (line_ret s i w1 (by omega) (by omega)) ?_;exact hK _ _ ⟨by rw[e];rfl,ho.done⟩
 by_cases h1:s[i]=13
 ·simp only[fa_c0,cut_s ho 0 rfl,hx,rs,e1,decide_eq_true h1,g_un];exact fin (by simp[Lx.eol,h1])
 simp only[fa_c0,cut_s ho 0 rfl,hx,rs,e1,decide_eq_false h1];by_cases h2:s[i]=10
 ·simp only[rs,e2,decide_eq_true h2,g_un];exact fin (by simp[Lx.eol,h2])
 simp only[rs,e2,decide_eq_false h2,g_un];exact hK _ _ ⟨by simp[Lx.eol,h1,h2],ho.done⟩
end
section
open Eng Go.RowKit
theorem hexor_fin:∀n m:Fin 16,bOr .i64 (IntKind.wrap .i64 ((n.val:Int)*2 ^ (min (4:Int).toNat IntKind.i64.bits))) (m.val:Int)=((16*n.val+m.val:Nat):Int):=by decide +kernel
theorem hexor {a b:Int}(ha:0≤a)(ha2:a≤15)(hb:0≤b)(hb2:b≤15):bOr .i64 (IntKind.wrap .i64 (a*2 ^ (min (4:Int).toNat IntKind.i64.bits))) b=16*a+b:=by
 have:=hexor_fin ⟨a.toNat,by omega⟩ ⟨b.toNat,by omega⟩;simp only at this;rw[Int.toNat_of_nonneg ha,Int.toNat_of_nonneg hb] at this;rw[this];omega
theorem byte_nat {a b:Int}(ha:0≤a)(ha2:a≤15)(hb:0≤b)(hb2:b≤15):((Lx.byte a b).toNat:Int)=16*a+b:=by
 rw[Lx.byte,UInt8.toNat_ofNat'];omega
theorem unhex_odd:∀(n:Nat) (l:List UInt8),l.length≤n→l.length % 2=1→Lx.unhex l=none
|_,[],_,h=>by simp at h
|_,[_],_,_=>rfl
|0,_::_::_,h,_=>by simp at h
|n+1,a::b::t,hl,h=>by
  simp only[List.length_cons] at hl h;rw[Lx.unhex,unhex_odd n t (by omega) (by omega)];simp
theorem unhex_step {s:List UInt8}{i:Nat}(h:i+1 < s.length):Lx.unhex (s.drop i)=if Lx.digit s[i] < 0∨Lx.digit s[i+1] < 0 then none else (Lx.unhex (s.drop (i+2))).map (Lx.byte (Lx.digit s[i]) (Lx.digit s[i+1])::·):=by
 rw[Lx.drop_cons (show i < s.length by omega),Lx.drop_cons h,Lx.unhex]
theorem unhexE_none {s:List UInt8}(h:Lx.unhex s=none):Lx.unhexE s=([],3):=by rw[Lx.unhexE,h]
theorem unhexE_some {s x:List UInt8}(h:Lx.unhex s=some x):Lx.unhexE s=(x,0):=by rw[Lx.unhexE,h]
theorem m_b1 {n:Int}(w:World)(c:UInt8)(h:(c.toNat:Int)=n):(mBuildS 76 1 #[(0,.int .u8 n)]).run prog w=.ok (.value (.slice (some ⟨w.heap.size,0,none⟩) [c].length [c].length)) (w.alloc (.cells (bytesV [c]).toArray 5)):=by
 subst h;kernel_rfl
theorem o_app1 {S:Nat→Prop}{w0 w:World}{L:List Ent}{v:Value}{l:List UInt8}{n:Int}{cs:Array Bool}{PK PK2:PKT}{K:VWP}(c:UInt8)(h:(c.toNat:Int)=n)
  (ho:OwnS S w0 w (BRow v l::L)) (hb:l.length+1≤140737488355328) (k:∀v' w',OwnS S w0 w' (BRow v' (l++[c])::L)→K v' w') :
  DoX prog (mBuildS 76 1 #[(0,.int .u8 n)]) w PK fun t w=>DoX prog (mB .append #[76,76] 76 cs #[v,t]) w PK2 K:=
 o_appB (m:=[c]) (fun w=>m_b1 w c h) ho (by simpa using hb) k
theorem c_8 {w:World}{PK:PKT}{K:VWP}{n:Int}:DoX prog (mConv 3 5 (.int .i64 n)) w PK K=K (.int .u8 (IntKind.wrap .u8 n)) w:=
 c_int (show (Tryz.prog.underlying 3).isSome=true by kernel_rfl) Tryz.underlying5
theorem c_64 {w:World}{PK:PKT}{K:VWP}{n:Int}(h0:0≤n)(h1:n≤255):DoX prog (mConv 5 3 (.int .u8 n)) w PK K=K (.int .i64 n) w:=by
 rw[c_int (show (Tryz.prog.underlying 5).isSome=true by kernel_rfl) Tryz.underlying3,wrap64_id (by omega) (by omega)]
 attribute [local congr] g_congr in
theorem unhex_ret (s:List UInt8)(w:World)(hs:s.length≤1099511627776):Ret prog 119 #[.string ⟨s.toArray⟩] w (fun v w'=>v=.tuple #[.string ⟨(Lx.unhexE s).1.toArray⟩,.int .i64 (Lx.unhexE s).2]∧Below w.heap.size w w'):=by
  refine ret_of fun K hK=>S_octet_Unhex_ok ?_;unfold S_octet_Unhex;rw[s_len Tryz.underlying9,b_rem (by omega)];have hr:((s.length:Int).tmod 2)=((s.length % 2:Nat):Int):=by rw[Int.tmod_eq_emod_of_nonneg (by omega)];omega
  rw[hr];by_cases hodd:s.length % 2=1
  ·rw[hodd];simp only[rs];have hu:¬((1:Nat):Int)=0:=by omega
   simp only[hu,decide_true,decide_not,decide_false,Bool.not_false,rs];exact hK _ _ ⟨by rw[unhexE_none (unhex_odd _ s (Nat.le_refl _) hodd)],(Own.start w).done⟩
  have heven:s.length % 2=0:=by omega
  have hq:((s.length:Int).tdiv 2)=((s.length / 2:Nat):Int):=by rw[Int.tdiv_eq_ediv_of_nonneg (by omega)];omega
  rw[heven];simp only[rs,ne_eq,Int.natCast_zero,not_true,decide_false];rw[s_len Tryz.underlying9,b_quo (by omega),hq,wrap64_id (by omega) (by omega)];refine o_make (c:=s.length / 2) rfl Tryz.underlying76 (show elB prog 5 1 1=true by kernel_rfl) (by omega) (by omega) (Own.start w) fun v w1 h1=>?_;refine loop (fun vs w'=>∃(i:Nat) (v:Value) (acc:List UInt8),vs=[v,.int .i64 i]∧i≤s.length∧i % 2=0∧acc.length≤i∧Lx.unhex s=(Lx.unhex (s.drop i)).map (acc++·)∧Own w w' [BRow v acc])
   (fun vs _=>s.length - n1 vs) ⟨0,v,[],rfl,by omega,rfl,by simp,by simp,by simpa[BRow,bytesV] using h1⟩ ?_
  rintro vs w2 ⟨i,v,acc,rfl,hi,hi0,ha,he,ho⟩ _;simp only[S_octet_Unhex_0,gd,s_len Tryz.underlying9];rw[b_lss];by_cases hlt:(i:Int) < (s.length:Int)
  ·have hi2:i+1 < s.length:=by omega
   have hi3:i < s.length:=by omega
   simp only[hlt,decide_true,i_t];have b1:=Lx.digit_bd s[i];have b2:=Lx.digit_bd s[i+1];have hw1:IntKind.wrap .i64 ((i:Int)+1)=((i+1:Nat):Int):=by rw[wrap64_id (by omega) (by omega)];omega
   have hc1:s[(i:Int).toNat]?=some s[i]:=by simp[hi3]
   have hc2:s[((i+1:Nat):Int).toNat]?=some s[i+1]:=by rw[Int.toNat_natCast];simp[hi2]
   refine quiet (q_do _ (fun w=>run_s_ix (c:=s[i]) Tryz.underlying9 (Int.natCast_nonneg i) hc1) ?_);refine q_call (.int .i64 (Lx.digit s[i])) (fun w hb=>ret_same (digit_ret s[i] w) hb) ?_;refine q_do (.int .i64 ((i+1:Nat):Int)) (fun w=>by rw[r_add,hw1]) ?_;refine q_do _ (fun w=>run_s_ix (c:=s[i+1]) Tryz.underlying9 (Int.natCast_nonneg _) hc2) ?_;refine q_call (.int .i64 (Lx.digit s[i+1])) (fun w hb=>ret_same (digit_ret s[i+1] w) hb) ?_;intro w3 hb3;have ho:=ho.grow hb3;rw[unhex_step hi2] at he;simp +contextual only[rs,gs];by_cases hbad:Lx.digit s[i] < 0∨Lx.digit s[i+1] < 0
   ·have hb:(decide (Lx.digit s[i] < 0)||decide (Lx.digit s[i+1] < 0))=true:=by simpa using hbad
    simp only[hb,i_t];rw[if_pos hbad] at he;exact hK _ _ ⟨by rw[unhexE_none he],ho.done⟩
   have hb:(decide (Lx.digit s[i] < 0)||decide (Lx.digit s[i+1] < 0))=false:=by simpa using hbad
   simp only[hb,i_f];rw[if_neg hbad] at he;rw[b_shl (by omega),b_or,hexor (by omega) (by omega) (by omega) (by omega),c_8,wrap8_id (by omega) (by omega)];refine o_app1 (Lx.byte (Lx.digit s[i]) (Lx.digit s[i+1])) (byte_nat (by omega) (by omega) (by omega) (by omega)) ho (by omega) fun v' w4 ho=>?_;rw[wrap64_id (by omega) (by omega)];refine nextX ⟨i+2,v',_,rfl,by omega,by omega,by simp;omega,?_,ho⟩ (by simp[n1,RowKit.intOf];omega);rw[he,Option.map_map]
   congr 1
   funext x;simp
  ·have hi2:i=s.length:=by omega
   subst hi2;simp only[hlt,decide_false,i_f];rw[o_strB 0 ho rfl];rw[List.drop_length,Lx.unhex,Option.map_some,List.append_nil] at he;exact hK _ _ ⟨by rw[unhexE_some he],ho.done⟩
end
section
open Eng Go.RowKit
theorem cut_nil (s:List UInt8)(i:Nat):Lx.cut s i i=[]:=by simp[Lx.cut]
theorem cut_cons {s:List UInt8}{i j:Nat}(h:i < j)(hj:j≤s.length):Lx.cut s i j=s[i]::Lx.cut s (i+1) j:=by
 unfold Lx.cut;rw[Lx.drop_cons (show i < s.length by omega),show j - i=(j - (i+1))+1 by omega,List.take_succ_cons]
theorem cut_length {s:List UInt8}{i j:Nat}(hj:j≤s.length):(Lx.cut s i j).length=j - i:=by
 unfold Lx.cut;simp;omega
theorem cut_one {s:List UInt8}{i:Nat}(h:i < s.length):Lx.cut s i (i+1)=[s[i]]:=by rw[cut_cons (by omega) (by omega),cut_nil]
theorem cut_two {s:List UInt8}{i:Nat}(h:i+1 < s.length):Lx.cut s i (i+2)=[s[i],s[i+1]]:=by rw[cut_cons (by omega) (by omega),cut_one h]
theorem s_cut {s:List UInt8}{i j:Nat}{x y:Int}{w:World}{PK:PKT}{K:VWP}(hx:x=(i:Int))(hy:y=(j:Int))(h:i≤j)(hj:j≤s.length) :
  DoX prog (mSlice 9 (.string ⟨s.toArray⟩) (some (.int .i64 x)) (some (.int .i64 y)) none) w PK K=K (.string ⟨(Lx.cut s i j).toArray⟩) w:=by
 subst hx;subst hy;rw[s_slice Tryz.underlying9 (by omega) (by omega) (by omega)];rfl
theorem s_at {s:List UInt8}{i:Nat}{w:World}{PK:PKT}{K:VWP}(h:i < s.length) :
  DoX prog (mIx 9 (.string ⟨s.toArray⟩) (.int .i64 (i:Int))) w PK K=K (.int .u8 (s[i].toNat:Int)) w:=
 s_ix (c:=s[i]) Tryz.underlying9 (Int.natCast_nonneg i) (by simp[h])
theorem unhexE_two (a b:UInt8):Lx.unhexE [a,b]=if Lx.digit a < 0∨Lx.digit b < 0 then ([],3) else ([Lx.byte (Lx.digit a) (Lx.digit b)],0):=by
 by_cases h:Lx.digit a < 0∨Lx.digit b < 0
 ·rw[if_pos h];exact unhexE_none (by rw[Lx.unhex,if_pos h])
 ·rw[if_neg h];exact unhexE_some (by rw[Lx.unhex,if_neg h,Lx.unhex];rfl)
theorem name_ret (s:List UInt8)(a:Nat)(w:World)(hs:s.length≤1099511627776)(ha:a < s.length):Ret prog 76 #[cutV s a] w (fun v w'=>v=tokR (Lx.name s a)∧Below w.heap.size w w'):=by
 refine ret_of fun K hK=>S_lex_cutter_name_ok ?_;unfold S_lex_cutter_name;refine o_cut s a (Own.start w) fun b1 w1 ho=>?_;refine o_tok ho fun b w2 ho=>?_;have hw1:IntKind.wrap .i64 ((a:Int)+1)=((a+1:Nat):Int):=by rw[wrap64_id (by omega) (by omega)];omega
 simp only[cut_v ho 1 rfl,fa_c1,cut_a ho 1 rfl,rs,hw1];have hto:=Lx.run_le s (show a+1≤s.length by omega);have hto2:a+1≤Lx.run s (a+1):=by unfold Lx.run;omega
 refine c_below ho (run_ret s a (a+1) w2 hs (by omega)) ?_;rintro _ w3 rfl ho;simp only[fa_c1,cut_a ho 1 rfl,rs,hw1];generalize hT:Lx.run s (a+1)=tt at *;refine loop (fun vs w'=>∃(i:Nat) (v d:Value) (acc:List UInt8),vs=[d,v,.int .i64 i]∧a+1≤i∧i≤tt∧acc.length≤i∧Lx.nameF (Lx.cut s (a+1) tt)=(Lx.nameF (Lx.cut s i tt)).map (acc++·)∧Own w w' [BRow v acc,tokE b Lx.none_,cutE b1 s a])
  (fun vs _=>tt - n2 vs) ⟨a+1,_,_,[],rfl,by omega,hto2,by simp,by simp,ho.nilRow _ 1⟩ ?_
 rintro vs w4 ⟨i,v,d,acc,rfl,hi1,hi2,hacc,he,ho⟩ _;simp only[S_lex_cutter_name_0,gd];rw[b_lss];by_cases hlt:(i:Int) < (tt:Int)
 ·have hi3:i < tt:=by omega
  have hi4:i < s.length:=by omega
  simp only[hlt,decide_true,i_t,fa_c0,cut_s ho 2 rfl,s_at hi4];rw[cut_cons hi3 hto] at he;have e1:=u8d s[i] 35 35 rfl;refine join fun J hJ=>?_;have fin:∀(j:Nat) (c:UInt8) (n:Int) (d:Value) (w5:World),(c.toNat:Int)=n→i≤j→j < tt→Lx.nameF (Lx.cut s (a+1) tt)=(Lx.nameF (Lx.cut s (j+1) tt)).map (acc++c::·)→Own w w5 [BRow v acc,tokE b Lx.none_,cutE b1 s a]→J [d,.int .i64 j,.int .u8 n] w5:=by
   intro j c n d w5 hc hij hjt he ho;refine hJ _ _ fun _=>?_;simp only[S_lex_cutter_name_1,gd];refine o_app1 c hc ho (by omega) fun v' w6 ho=>?_;rw[b_add,wrap64_id (by omega) (by omega)];refine nextX ⟨j+1,v',_,acc++[c],rfl,by omega,by omega,by simp;omega,?_,ho⟩ (by simp[n2,RowKit.intOf];omega);rw[he]
   congr 1
   funext x;simp
  by_cases h35:s[i]=35
  ·simp only[rs,e1,decide_eq_true h35];rw[wrap64_id (by omega) (by omega)];by_cases hend:(tt:Int)≤(i:Int)+2
   ·simp only[hend,decide_true,i_t];refine tok_tail 1 ho rfl (refused_ret 3 _) fun w' hb=>hK _ _ ⟨?_,hb⟩;have hn:Lx.nameF (s[i]::Lx.cut s (i+1) tt)=none:=by
     have hl:=cut_length (s:=s) (i:=i+1) hto;cases hc:Lx.cut s (i+1) tt with
    |nil=>simp[Lx.nameF,h35]
    |cons x t=>
      cases t with
     |nil=>simp[Lx.nameF,h35]
     |cons y t=>rw[hc] at hl;simp at hl;omega
    rw[hn] at he;simp only[Lx.name,hT,he,Option.map_none]
   ·simp only[hend,decide_false,i_f,rs,fa_c0,cut_s ho 2 rfl];rw[wrap64_id (n:=(i:Int)+1) (by omega) (by omega),wrap64_id (n:=(i:Int)+3) (by omega) (by omega),s_cut (i:=i+1) (j:=i+3) (by simp) (by simp) (by omega) (by omega)];have hi5:i+1 < s.length:=by omega
    have hi6:i+2 < s.length:=by omega
    rw[show Lx.cut s (i+1) (i+3)=[s[i+1],s[i+2]] from cut_two (i:=i+1) (by omega)];have hlist:s[i]::Lx.cut s (i+1) tt=s[i]::s[i+1]::s[i+2]::Lx.cut s (i+3) tt:=by
     rw[cut_cons (show i+1 < tt by omega) hto,cut_cons (show i+1+1 < tt by omega) hto]
    rw[hlist,Lx.nameF,if_pos h35] at he;have b1:=Lx.digit_bd s[i+1];have b2:=Lx.digit_bd s[i+2];refine c_below ho (unhex_ret [s[i+1],s[i+2]] w4 (by simp)) ?_;rintro _ w5 rfl ho;have bad:(Lx.digit s[i+1] < 0∨Lx.digit s[i+2] < 0∨16*Lx.digit s[i+1]+Lx.digit s[i+2]=0)→Lx.name s a=Lx.refused 3:=by
     intro h;rw[if_pos h] at he;simp only[Lx.name,hT,he,Option.map_none]
    rw[x_0,x_1,unhexE_two];by_cases hbad:Lx.digit s[i+1] < 0∨Lx.digit s[i+2] < 0
    ·rw[if_pos hbad];simp only[rs,g_un,ne_eq,show ¬((3:Int)=0) by decide,not_false_eq_true,decide_true];refine tok_tail 1 ho rfl (refused_ret 3 _) fun w' hb=>hK _ _ ⟨?_,hb⟩;rw[bad (by rcases hbad with h|h<;>simp[h])]
    ·rw[if_neg hbad];have hb0:=byte_nat (a:=Lx.digit s[i+1]) (b:=Lx.digit s[i+2]) (by omega) (by omega) (by omega) (by omega);simp only[rs,g_un,ne_eq,not_true,decide_false];by_cases hz:16*Lx.digit s[i+1]+Lx.digit s[i+2]=0
     ·have hbz:Lx.byte (Lx.digit s[i+1]) (Lx.digit s[i+2])=0:=UInt8.toNat_inj.1 (by have:((0:UInt8).toNat:Int)=0:=rfl;omega);rw[hbz];simp only[rs,decide_true];refine tok_tail 1 ho rfl (refused_ret 3 _) fun w' hb=>hK _ _ ⟨?_,hb⟩;rw[bad (.inr (.inr hz))]
     ·have hbz:¬([Lx.byte (Lx.digit s[i+1]) (Lx.digit s[i+2])]=[(0:UInt8)]):=by
       intro h
       injection h with h _
       rw[h] at hb0;exact hz (by rw[←hb0];rfl)
      rw[if_neg (by omega)] at he;simp only[rs,hbz,decide_false];rw[s_ix (c:=Lx.byte (Lx.digit s[i+1]) (Lx.digit s[i+2])) Tryz.underlying9 (by omega) rfl];refine fin (i+2) _ _ _ _ rfl (by omega) (by omega) ?_ ho;rw[he,Option.map_map];rfl
  ·simp only[rs,e1,decide_eq_false h35];refine fin i s[i] _ _ _ rfl (by omega) hi3 ?_ ho;rw[he,Lx.nameF_ne h35,Option.map_map];rfl
 ·have hi3:i=tt:=by omega
  subst hi3;simp only[hlt,decide_false,i_f,cut_v ho 2 rfl,o_strB 0 ho rfl];rw[cut_nil,Lx.nameF,Option.map_some,List.append_nil] at he;refine tok_tail 1 ho rfl (told_ret s a 4 i acc 127 _) fun w' hb=>hK _ _ ⟨?_,hb⟩;simp only[Lx.name,hT,he]
end
section
open Eng Go.RowKit
theorem wrap8_mod (n:Int):IntKind.wrap .u8 n=n % 256:=by
 simp[IntKind.wrap,IntKind.signed,IntKind.bits]
theorem escL_ix (c:UInt8):match Lx.escL c with
 |some b=>∃k:Nat,Lib.indexByte [110,114,116,98,102] c=(k:Int)∧k < 5∧Lx.cut [10,13,9,8,12] k (k+1)=[b]
 |none=>Lib.indexByte [110,114,116,98,102] c=-1:=by
 by_cases h1:c=110
 ·subst h1;exact⟨0,by decide,by decide,by decide⟩
 by_cases h2:c=114
 ·subst h2;exact⟨1,by decide,by decide,by decide⟩
 by_cases h3:c=116
 ·subst h3;exact⟨2,by decide,by decide,by decide⟩
 by_cases h4:c=98
 ·subst h4;exact⟨3,by decide,by decide,by decide⟩
 by_cases h5:c=102
 ·subst h5;exact⟨4,by decide,by decide,by decide⟩
 have e:Lx.escL c=none:=by simp[Lx.escL,h1,h2,h3,h4,h5]
 rw[e];have g:∀x:UInt8,c≠x→(x==c)=false:=fun x hx=>by simpa using fun h:x=c=>hx h.symm
 simp[Lib.indexByte,g _ h1,g _ h2,g _ h3,g _ h4,g _ h5]
theorem o_str1 {S:Nat→Prop}{w0 w:World}{L:List Ent}{n:Int}{PK PK2:PKT}{K:VWP}(c:UInt8)(h:(c.toNat:Int)=n)(ho:OwnS S w0 w L)
  (k:∀w',OwnS S w0 w' L→K (.string ⟨[c].toArray⟩) w') :
  DoX prog (mBuildS 76 1 #[(0,.int .u8 n)]) w PK fun t w=>DoX prog (mConv 76 9 t) w PK2 K:=by
 refine o_new (fun b=>.slice (some ⟨b,0,none⟩) [c].length [c].length) (bytesV [c]) 5 (fun w=>m_b1 w c h) ho fun b w' ho'=>?_;rw[c_bytes (l:=[c]) Tryz.underlying76 Tryz.underlying5 Tryz.underlying9 (ho'.sl 0 rfl 1 [c].length [c].length rfl)];exact k _ ho'.tail
theorem escaped_ret (s:List UInt8)(a:Int)(i:Nat)(w:World)(hs:s.length≤1099511627776)(h:i < s.length):Ret prog 121 #[cutV s a,.int .i64 i] w (fun v w'=>v=.tuple #[.string ⟨(Lx.escF (s.drop i)).1.toArray⟩,.int .i64 ((i+(Lx.escF (s.drop i)).2:Nat):Int)]∧Below w.heap.size w w'):=by
 refine ret_of fun K hK=>S_lex_cutter_escaped_ok ?_;unfold S_lex_cutter_escaped;refine o_cut s a (Own.start w) fun b1 w1 ho=>?_;simp only[fa_c0,cut_s ho 0 rfl,s_at h];refine c_eq (indexByte_ret [110,114,116,98,102] s[i] w1) ?_;have hd:=Lx.drop_cons h;have hx:=escL_ix s[i];cases hl:Lx.escL s[i] with
|some b=>
  rw[hl] at hx;obtain⟨k,hk,hk5,hc⟩:=hx;have hn:(0:Int)≤(k:Int):=by omega
  simp only[hk,rs,hn,decide_true];rw[wrap64_id (n:=(k:Int)+1) (by omega) (by omega),wrap64_id (n:=(i:Int)+1) (by omega) (by omega)];rw[show (⟨#[10,13,9,8,12]⟩:ByteArray)=⟨([10,13,9,8,12]:List UInt8).toArray⟩ from rfl,s_cut (i:=k) (j:=k+1) rfl (by simp) (by omega) (by simp;omega),hc];exact hK _ _ ⟨by rw[hd,Lx.escF,hl];simp,ho.done⟩
|none=>
  rw[hl] at hx;simp only[hx,rs,show ¬((0:Int)≤-1) by decide,decide_false,cut_v ho 0 rfl];refine c_below ho (end_ret s a i w1 hs h) ?_;rintro _ w2 rfl ho;rw[x_0,x_1];cases he:Lx.eol s[i] with
 |true=>
   simp only[if_true,rs];refine hK _ _ ⟨?_,ho.done⟩;rw[hd,Lx.escF,hl];simp only[he,if_true,Lx.line,hd]
 |false=>
   simp only[Bool.false_eq_true,if_false,i_f];have hE:Lx.escF (s.drop i)=if 0 < (Lx.octF 3 0 (s.drop i)).2 then ([UInt8.ofNat (Lx.octF 3 0 (s.drop i)).1],(Lx.octF 3 0 (s.drop i)).2) else ([s[i]],1):=by
    rw[hd,Lx.escF,hl];simp only[he,Bool.false_eq_true,if_false]
   refine loop (fun vs w'=>∃(j n:Nat),vs=[.int .i64 n,.int .i64 j]∧i≤j∧j≤i+3∧j≤s.length∧n < 8 ^ (j - i)∧Lx.octF 3 0 (s.drop i)=((Lx.octF (3 - (j - i)) n (s.drop j)).1,(Lx.octF (3 - (j - i)) n (s.drop j)).2+(j - i))∧Own w w' [cutE b1 s a])
    (fun vs _=>i+3 - n1 vs) ⟨i,0,rfl,by omega,by omega,by omega,by simp,by simp,ho⟩ ?_
   rintro vs w3 ⟨j,n,rfl,hj1,hj2,hj3,hn,ho8,ho⟩ _;simp only[S_lex_cutter_escaped_0,gd,fa_c0,cut_s ho 0 rfl,s_len Tryz.underlying9];have hn2:n < 512:=Nat.lt_of_lt_of_le hn (Nat.pow_le_pow_right (by decide) (by omega:j - i≤3));have stop:Lx.octF (3 - (j - i)) n (s.drop j)=(n,0)→IfX (.bool (decide ((i:Int) < (j:Int)))) (DoX prog (mConv 3 5 (.int .i64 n)) w3 (pk K) fun t73 w=>
     DoX prog (mBuildS 76 1 #[(0,t73)]) w (pk K) fun t74 w=>
     DoX prog (mConv 76 9 t74) w (pk K) fun t75 w=>
     K (.returned (.tuple #[t75,.int .i64 j])) w) (DoX prog (mSlice 9 (.string ⟨s.toArray⟩) (some (.int .i64 i)) (some (.int .i64 (IntKind.wrap .i64 ((i:Int)+1)))) none) w3 (pk K) fun t82 w=>
     K (.returned (.tuple #[t82,.int .i64 (IntKind.wrap .i64 ((i:Int)+1))])) w):=by
    intro h0;rw[h0] at ho8;by_cases hij:(i:Int) < (j:Int)
    ·simp only[hij,decide_true,i_t];rw[c_8,wrap8_mod];refine o_str1 (UInt8.ofNat n) (by rw[UInt8.toNat_ofNat'];omega) ho fun w' ho=>?_;refine hK _ _ ⟨?_,ho.done⟩;rw[hE,ho8,if_pos (by simp;omega)];simp only;rw[show i+(0+(j - i))=j by omega]
    ·simp only[hij,decide_false,i_f];rw[wrap64_id (by omega) (by omega),s_cut (i:=i) (j:=i+1) rfl (by simp) (by omega) (by omega),cut_one h];refine hK _ _ ⟨?_,ho.done⟩;rw[hE,ho8,if_neg (by simp;omega)];simp
   by_cases hlt:(j:Int) < (s.length:Int)
   ·have hj4:j < s.length:=by omega
    have hdj:=Lx.drop_cons hj4;by_cases hj5:(j:Int) < (i:Int)+3
    ·obtain⟨m,hm⟩:∃m,3 - (j - i)=m+1:=⟨3 - (j - i) - 1,by omega⟩;have hw3:IntKind.wrap .i64 ((i:Int)+3)=(i:Int)+3:=wrap64_id (by omega) (by omega);rw[hm,hdj,Lx.octF] at ho8;by_cases h48:(48:Int)≤(s[j].toNat:Int)
     ·by_cases h55:(s[j].toNat:Int)≤55
      ·have hoct:Lx.oct s[j]=true:=by simp[Lx.oct];omega
       simp only[hlt,decide_true,rs,hw3,hj5,fa_c0,cut_s ho 0 rfl,s_at hj4,h48,h55];rw[wrap8_id (by omega) (by omega),c_64 (by omega) (by omega)];simp only[rs];rw[wrap64_id (n:=8*(n:Int)) (by omega) (by omega),wrap64_id (by omega) (by omega),wrap64_id (by omega) (by omega)];rw[if_pos hoct] at ho8;refine nextX ⟨j+1,8*n+(s[j].toNat - 48),by simp;omega,by omega,by omega,by omega,?_,?_,ho⟩ (by simp[n1,RowKit.intOf];omega)
       ·rw[show j+1 - i=(j - i)+1 by omega,Nat.pow_succ];omega
       ·rw[ho8,show 3 - (j+1 - i)=m by omega];refine Prod.ext rfl ?_;simp only;omega
      ·simp only[hlt,decide_true,rs,hw3,hj5,fa_c0,cut_s ho 0 rfl,s_at hj4,h48,h55,decide_false,g_un];refine stop ?_;rw[hm,hdj,Lx.octF,if_neg];simp[Lx.oct];omega
     ·simp only[hlt,decide_true,rs,hw3,hj5,fa_c0,cut_s ho 0 rfl,s_at hj4,h48,decide_false,g_un];refine stop ?_;rw[hm,hdj,Lx.octF,if_neg];simp[Lx.oct];omega
    ·have hw3:IntKind.wrap .i64 ((i:Int)+3)=(i:Int)+3:=wrap64_id (by omega) (by omega);simp only[hlt,decide_true,rs,hw3,hj5,fa_c0,cut_s ho 0 rfl,decide_false,g_un];refine stop ?_;rw[show 3 - (j - i)=0 by omega,Lx.octF]
   ·simp only[hlt,decide_false,rs,fa_c0,cut_s ho 0 rfl,g_un];refine stop ?_;rw[show j=s.length by omega,List.drop_length];cases 3 - (s.length - i)<;>rfl
end
section
open Eng Go.RowKit
theorem bldString_q {w0 w:World}{L:List Ent}(i:Nat){b:Nat}{v:Value}{l:List UInt8}(ho:Own w0 w L)(hi:L[i]?=some (Bld b v l)):Ret prog 51 #[.pointer (some ⟨b,0,none⟩)] w (fun r w'=>r=.string ⟨l.toArray⟩∧Own w0 w' L):=by
 refine (bldString_ret (ho.at_ i hi)).mono ?_;rintro r w' ⟨e',⟨rfl,rfl⟩,ht⟩;have:=ho.turn i hi ht;have e:L.set i (Bld b v l)=L:=by
  obtain⟨h1,h2⟩:=List.getElem?_eq_some_iff.1 hi;rw[←h2];exact List.set_getElem_self h1
 rw[e] at this;exact⟨rfl,this⟩
theorem told_q {w0 w:World}{L:List Ent}{x:Value}{f:Nat}{args:Array Value}(ho:Own w0 w L)(h:Ret prog f args w (fun v w'=>v=x∧Below w.heap.size w w')):Ret prog f args w (fun r w'=>r=x∧Own w0 w' L):=
 h.mono fun _ _ r=>⟨r.1,ho.grow r.2⟩
theorem textG_eol {s:List UInt8}{i o:Nat}(h:i < s.length)(he:Lx.eol s[i]=true):Lx.textG 0 o (s.drop i)=(Lx.textG 0 o (s.drop (Lx.line s i))).map fun r=>(10::r.1,r.2+(Lx.line s i - i)):=by
 have hd:=Lx.drop_cons h;have h1:=Lx.lineF_pos s[i] (s.drop (i+1));have h2:=Lx.lineF_le (s.drop i);rw[hd] at h2;have hl:Lx.line s i=i+Lx.lineF (s[i]::s.drop (i+1)):=by rw[Lx.line,hd]
 rw[hd,Lx.textG,if_pos he,Lx.textG_skip _ _ _ (by simp at h2 ⊢;omega),Option.map_map,List.drop_drop,hl,show i+1+(Lx.lineF (s[i]::s.drop (i+1)) - 1)=i+Lx.lineF (s[i]::s.drop (i+1)) by omega]
 congr 1
 funext r
 refine Prod.ext rfl ?_;simp only[Function.comp];omega
theorem textG_esc {s:List UInt8}{i o:Nat}(h:i+1 < s.length)(he:s[i]=92):Lx.textG 0 o (s.drop i)=(Lx.textG 0 o (s.drop (i+1+(Lx.escF (s.drop (i+1))).2))).map fun r=>((Lx.escF (s.drop (i+1))).1++r.1,r.2+1+(Lx.escF (s.drop (i+1))).2):=by
 have hd:=Lx.drop_cons (show i < s.length by omega);have hd2:=Lx.drop_cons h;have h2:=Lx.escF_le (s.drop (i+1));have hn:Lx.eol s[i]=false:=by rw[he];rfl
 rw[hd,Lx.textG,if_neg (by rw[hn];decide),if_pos he];rw[if_neg (by rw[hd2];exact List.cons_ne_nil _ _),Lx.textG_skip _ _ _ h2,Option.map_map,List.drop_drop]
 congr 1
 funext r
 refine Prod.ext rfl ?_;simp only[Function.comp];omega
theorem text_ret (s:List UInt8)(a:Nat)(w:World)(hs:s.length≤1099511627776)(ha:a < s.length):Ret prog 77 #[cutV s a] w (fun v w'=>v=tokR (Lx.text s a)∧Below w.heap.size w w'):=by
 refine ret_of fun K hK=>S_lex_cutter_text_ok ?_;unfold S_lex_cutter_text;refine o_cut s a (Own.start w) fun b1 w1 ho=>?_;refine o_tok ho fun b w2 ho=>?_;refine o_new (fun b=>.pointer (some ⟨b,0,none⟩)) [.pointer none,.slice none 0 0] 78 (fun _=>by kernel_rfl) ho fun b4 w3 ho=>?_;have ho:Own w w3 [Bld b4 (.slice none 0 0) [],tokE b Lx.none_,cutE b1 s a]:=OwnS.closeB (l:=[]) (.inl rfl) roomy_nil ((ho.nilRow 5 1).swap);have hw1:IntKind.wrap .i64 ((a:Int)+1)=((a+1:Nat):Int):=by rw[wrap64_id (by omega) (by omega)];omega
 simp only[fa_c1,cut_a ho 2 rfl,rs,hw1];refine loop (fun vs w'=>∃(i o:Nat) (v d:Value) (acc:List UInt8),vs=[d,.int .i64 o,.int .i64 i]∧a+1≤i∧i≤s.length∧1≤o∧o≤i∧acc.length≤i∧Lx.textG 0 1 (s.drop (a+1))=(Lx.textG 0 o (s.drop i)).map (fun r=>(acc++r.1,r.2+(i - (a+1))))∧Own w w' [Bld b4 v acc,tokE b Lx.none_,cutE b1 s a])
  (fun vs _=>s.length - n2 vs) ⟨a+1,1,_,_,[],rfl,by omega,by omega,by omega,by omega,by simp,by simp,ho⟩ ?_
 rintro vs w4 ⟨i,o,v,d,acc,rfl,hi1,hi2,ho1,ho2,hacc,he,ho⟩ _;simp only[S_lex_cutter_text_0,gd,fa_c0,cut_s ho 2 rfl,s_len Tryz.underlying9];rw[b_lss];have bad:∀{w5},Own w w5 [Bld b4 v acc,tokE b Lx.none_,cutE b1 s a]→Lx.textG 0 o (s.drop i)=none→CallX prog 71 #[(.int .i64 4)] w5 (pk K) fun t42 w=>
   DoX prog (mExt t42 0) w (pk K) fun t43 w=>
   DoX prog (mExt t42 1) w (pk K) fun t44 w=>
   DoX prog (mStore 58 (.pointer (some ⟨b,0,none⟩)) t43) w (pk K) fun _ w=>
   RetX prog [.cell (.pointer (some ⟨b,0,none⟩)) 58,.val t44] w K:=by
  intro w5 ho hn;rw[hn,Option.map_none] at he;exact tok_tail 1 ho rfl (refused_ret 4 _) fun w' hb=>hK _ _ ⟨by rw[Lx.text,he],hb⟩
 by_cases hlt:(i:Int) < (s.length:Int)
 ·have hi3:i < s.length:=by omega
  have hd:=Lx.drop_cons hi3;simp only[hlt,decide_true,i_t,cut_v ho 2 rfl];refine c_below ho (end_ret s a i w4 hs hi3) ?_;rintro _ w5 rfl ho;rw[x_0,x_1];cases hE:Lx.eol s[i] with
 |true=>
   simp only[if_true,i_t];have hlp:=Lx.lineF_pos s[i] (s.drop (i+1));have hll:=Lx.lineF_le (s.drop i);have hL:Lx.line s i=i+Lx.lineF (s.drop i):=rfl;rw[←hd] at hlp;rw[List.length_drop] at hll;refine c_turn 0 ho rfl (writeByteN_ret (k:=10) (ho.at_ 0 rfl) (by omega) rfl (by omega)) ?_;rintro _ _ w6 ⟨rfl,v',rfl⟩ ho;refine nextX ⟨Lx.line s i,o,v',_,acc++[10],rfl,by omega,by omega,ho1,by omega,by simp;omega,?_,ho⟩ (by simp[n2,RowKit.intOf];omega);rw[he,textG_eol hi3 hE,Option.map_map]
   congr 1
   funext r
   refine Prod.ext (by simp) ?_;simp only[Function.comp];omega
 |false=>
   simp only[Bool.false_eq_true,if_false,i_f];refine join fun J hJ=>?_;simp only[fa_c0,cut_s ho 2 rfl,s_at hi3];have e1:=u8d s[i] 92 92 rfl;have e2:=u8d s[i] 40 40 rfl;have e3:=u8d s[i] 41 41 rfl;have hne:¬(Lx.eol s[i]=true):=by rw[hE];decide
   rw[hd,Lx.textG,if_neg hne] at he;have hput:∀(o':Nat) (d:Value),1≤o'→o'≤i+1→Lx.textG 0 1 (s.drop (a+1))=(Lx.textG 0 o' (s.drop (i+1))).map (fun r=>(acc++s[i]::r.1,r.2+1+(i - (a+1))))→J [d,.int .i64 o',.int .i64 i] w5:=by
    intro o' d h1 h2 he;refine hJ _ _ fun _=>?_;have h0:¬((o':Int)=0):=by omega
    simp only[S_lex_cutter_text_1,gd,rs,h0,decide_false,fa_c0,cut_s ho 2 rfl,s_at hi3];refine c_turn 0 ho rfl (writeByte_ret (c:=s[i]) (ho.at_ 0 rfl) (by omega)) ?_;rintro _ _ w6 ⟨rfl,v',rfl⟩ ho;rw[wrap64_id (by omega) (by omega)];refine nextX ⟨i+1,o',v',_,acc++[s[i]],rfl,by omega,by omega,h1,by omega,by simp;omega,?_,ho⟩ (by simp[n2,RowKit.intOf];omega);rw[he]
    congr 1
    funext r
    refine Prod.ext (by simp) ?_;simp only;omega
   by_cases g1:s[i]=92
   ·simp only[rs,e1,decide_eq_true g1];rw[wrap64_id (by omega) (by omega)];simp only[fa_c0,cut_s ho 2 rfl,s_len Tryz.underlying9,rs];rw[if_pos g1] at he;by_cases hend:(i:Int)+1=(s.length:Int)
    ·simp only[hend,decide_true,i_t];refine bad ho ?_;rw[hd,Lx.textG,if_neg hne,if_pos g1,if_pos (List.drop_eq_nil_of_le (by omega))]
    ·have hi4:i+1 < s.length:=by omega
     simp only[hend,decide_false,i_f,cut_v ho 2 rfl,rs];rw[show (i:Int)+1=((i+1:Nat):Int) by omega];have hel:=Lx.escF_le (s.drop (i+1));rw[List.length_drop] at hel;refine c_below ho (escaped_ret s a (i+1) w5 hs hi4) ?_;rintro _ w6 rfl ho;rw[x_0,x_1];have hxl:(Lx.escF (s.drop (i+1))).1.length≤1:=by
      rw[Lx.drop_cons hi4,Lx.escF];split
      ·simp
      ·split
       ·simp
       ·split<;>simp
     refine c_turn 0 ho rfl (writeString_ret (ho.at_ 0 rfl) (by omega)) ?_;rintro _ _ w7 ⟨_,v',rfl⟩ ho;refine nextX ⟨i+1+(Lx.escF (s.drop (i+1))).2,o,v',_,acc++(Lx.escF (s.drop (i+1))).1,rfl,by omega,by omega,ho1,by omega,by simp;omega,?_,ho⟩ (by simp[n2,RowKit.intOf];omega);have:=textG_esc (o:=o) hi4 g1;rw[hd,Lx.textG,if_neg hne,if_pos g1] at this;rw[he,this,Option.map_map]
     congr 1
     funext r
     refine Prod.ext (by simp) ?_;simp only[Function.comp];omega
   rw[if_neg g1] at he;simp only[rs,e1,decide_eq_false g1];by_cases g2:s[i]=40
   ·simp only[rs,e2,decide_eq_true g2];rw[wrap64_id (by omega) (by omega)];rw[if_pos g2,Option.map_map] at he;exact hput (o+1) d (by omega) (by omega) he
   rw[if_neg g2] at he;simp only[rs,e2,decide_eq_false g2];by_cases g3:s[i]=41
   ·simp only[rs,e3,decide_eq_true g3];rw[wrap64_id (by omega) (by omega)];rw[if_pos g3] at he;by_cases g4:o≤1
    ·have g5:(o:Int) - 1=0:=by omega
     rw[if_pos g4,Option.map_some,List.append_nil] at he;rw[g5];refine hJ _ _ fun _=>?_;simp only[S_lex_cutter_text_1,gd,rs,decide_true];refine quietC (fun w'=>Own w w' [Bld b4 v acc,tokE b Lx.none_,cutE b1 s a]) ho.drew ?_;refine q_at _ (fun _ ho=>cutr_v ho 2 rfl) ?_;refine q_do (.int .i64 ((i:Int)+1)) (fun _=>by rw[r_add,wrap64_id (by omega) (by omega)]) ?_;refine q_call _ (fun _ ho=>bldString_q 0 ho rfl) ?_;refine q_call (tokR (Lx.told 3 a ((i:Int)+1) acc 32767)) (fun w' ho=>told_q ho (told_ret s a 3 _ acc 32767 w')) ?_;refine q_do _ (fun _=>run_ext0) (q_do _ (fun _=>run_ext1) ?_);intro w6 ho;refine tok_put 1 ho rfl fun w' ho=>hK _ _ ⟨?_,ho.done⟩;simp only[Lx.text,he];rw[show ((a+1+(1+(i - (a+1))):Nat):Int)=(i:Int)+1 by omega]
    ·rw[if_neg g4,Option.map_map] at he;rw[show (o:Int) - 1=((o - 1:Nat):Int) by omega];exact hput (o - 1) d (by omega) (by omega) he
   rw[if_neg g3,Option.map_map] at he;simp only[rs,e3,decide_eq_false g3];exact hput o d ho1 (by omega) he
 ·have hi3:i=s.length:=by omega
  simp only[hlt,decide_false,i_f];refine bad ho ?_;rw[hi3,List.drop_length];rfl
end
section
open Eng Go.RowKit
def n3 (vs:List Value):Nat:=(RowKit.intOf (vs.getD 3 undef)).toNat
theorem hexS {w:World}{PK:PKT}{K:VWP}{a:Int}(c:Nat)(ha:0≤a)(ha2:a≤15):DoX prog (mBin .shl 3 (.int .i64 a) (.int .u64 4)) w PK K=K (.int .i64 (16*a)) w:=by
 rw[b_shl (by omega)];have:=hexor_fin ⟨a.toNat,by omega⟩ ⟨0,by omega⟩;have e:a*2 ^ (min (4:Int).toNat IntKind.i64.bits)=16*a:=by
  rw[show (2:Int) ^ (min (4:Int).toNat IntKind.i64.bits)=16 from rfl];omega
 rw[e,wrap64_id (by omega) (by omega)]
theorem cut_hex_ret (s:List UInt8)(a:Nat)(w:World)(hs:s.length≤1099511627776)(ha:a < s.length):Ret prog 75 #[cutV s a] w (fun v w'=>v=tokR (Lx.hex s a)∧Below w.heap.size w w'):=by
 refine ret_of fun K hK=>S_lex_cutter_hex_ok ?_;unfold S_lex_cutter_hex;refine o_cut s a (Own.start w) fun b1 w1 ho=>?_;refine o_tok ho fun b w2 ho=>?_;have hw1:IntKind.wrap .i64 ((a:Int)+1)=((a+1:Nat):Int):=by rw[wrap64_id (by omega) (by omega)];omega
 simp only[fa_c1,cut_a ho 1 rfl,rs,hw1]
 let ext (acc:List UInt8) (n:Nat) (r:(List UInt8×Nat) ⊕ Int):(List UInt8×Nat) ⊕ Int:=match r with|.inl r=>.inl (acc++r.1,r.2+n)|.inr e=>.inr e
 refine loop (fun vs w'=>∃(i:Nat) (h:Int) (v d:Value) (acc:List UInt8),vs=[d,v,.int .i64 h,.int .i64 i]∧a+1≤i∧i≤s.length∧-1≤h∧h≤15∧acc.length≤i∧Lx.hexF (-1) (s.drop (a+1))=ext acc (i - (a+1)) (Lx.hexF h (s.drop i))∧Own w w' [BRow v acc,tokE b Lx.none_,cutE b1 s a])
  (fun vs _=>s.length - n3 vs) ⟨a+1,-1,_,_,[],rfl,by omega,by omega,by omega,by omega,by simp,?_,ho.nilRow _ 1⟩ ?_
 ·cases Lx.hexF (-1) (s.drop (a+1))<;>simp[ext]
 rintro vs w4 ⟨i,h,v,d,acc,rfl,hi1,hi2,hh1,hh2,hacc,he,ho⟩ _;simp only[S_lex_cutter_hex_0,gd,fa_c0,cut_s ho 2 rfl,s_len Tryz.underlying9];rw[b_lss];have bad:∀(e:Int) {w5},Own w w5 [BRow v acc,tokE b Lx.none_,cutE b1 s a]→Lx.hexF h (s.drop i)=.inr e→CallX prog 71 #[(.int .i64 e)] w5 (pk K) fun t42 w=>
   DoX prog (mExt t42 0) w (pk K) fun t43 w=>
   DoX prog (mExt t42 1) w (pk K) fun t44 w=>
   DoX prog (mStore 58 (.pointer (some ⟨b,0,none⟩)) t43) w (pk K) fun _ w=>
   RetX prog [.cell (.pointer (some ⟨b,0,none⟩)) 58,.val t44] w K:=by
  intro e w5 ho hn;rw[hn] at he;exact tok_tail 1 ho rfl (refused_ret e _) fun w' hb=>hK _ _ ⟨by simp only[Lx.hex,he,ext],hb⟩
 by_cases hlt:(i:Int) < (s.length:Int)
 ·have hi3:i < s.length:=by omega
  have hd:=Lx.drop_cons hi3;simp only[hlt,decide_true,i_t];refine join fun J hJ=>?_;simp only[fa_c0,cut_s ho 2 rfl,s_at hi3];have e1:=u8d s[i] 62 62 rfl;have go:∀(h':Int) (v' d':Value) (acc':List UInt8) (w5:World),-1≤h'→h'≤15→acc'.length≤i+1→Lx.hexF (-1) (s.drop (a+1))=ext acc' (i+1 - (a+1)) (Lx.hexF h' (s.drop (i+1)))→Own w w5 [BRow v' acc',tokE b Lx.none_,cutE b1 s a]→J [d',v',.int .i64 h'] w5:=by
   intro h' v' d' acc' w5 h1 h2 h3 h4 ho;refine hJ _ _ fun _=>?_;simp only[S_lex_cutter_hex_2,gd,rs];rw[wrap64_id (by omega) (by omega)];exact nextX ⟨i+1,h',v',_,acc',rfl,by omega,by omega,h1,h2,h3,h4,ho⟩ (by simp[n3,RowKit.intOf];omega)
  rw[hd,Lx.hexF] at he;have hb0:=Lx.digit_bd s[i];by_cases g1:s[i]=62
  ·simp only[rs,e1,decide_eq_true g1];rw[if_pos g1] at he;refine join fun J3 hJ3=>?_;have fin:∀(v':Value) (acc':List UInt8) (w5:World),acc'=acc++(if 0≤h then [Lx.byte h 0] else [])→Own w w5 [BRow v' acc',tokE b Lx.none_,cutE b1 s a]→J3 [v'] w5:=by
    intro v' acc' w5 hacc' ho;refine hJ3 _ _ fun _=>?_;simp only[S_lex_cutter_hex_1,gd,rs,cut_v ho 2 rfl,o_strB 0 ho rfl];rw[wrap64_id (by omega) (by omega)];refine tok_tail 1 ho rfl (told_ret s a 3 _ acc' 32767 _) fun w' hb=>hK _ _ ⟨?_,hb⟩;simp only[Lx.hex,he,ext];rw[hacc',show ((a+1+(1+(i - (a+1))):Nat):Int)=(i:Int)+1 by omega]
   by_cases g2:0≤h
   ·simp only[rs,g2,decide_true];rw[hexS 0 g2 hh2,c_8,wrap8_mod];have hb:=byte_nat (a:=h) (b:=0) g2 hh2 (by omega) (by omega);refine o_app1 (Lx.byte h 0) (by omega) ho (by omega) fun v' w6 ho=>?_;exact fin _ _ _ (by rw[if_pos g2]) ho
   ·simp only[rs,g2,decide_false];exact fin _ _ _ (by rw[if_neg g2,List.append_nil]) ho
  rw[if_neg g1] at he;simp only[rs,e1,decide_eq_false g1];refine c_eq (digit_ret s[i] w4) ?_;refine c_eq (white_ret s[i] w4) ?_;cases hw:Oc.white s[i] with
 |true=>
   simp only[rs];rw[if_pos hw] at he;refine go h v _ acc _ hh1 hh2 (by omega) ?_ ho;rw[he];cases Lx.hexF h (s.drop (i+1)) with
  |inl r=>simp only[ext];rw[show r.2+1+(i - (a+1))=r.2+(i+1 - (a+1)) by omega]
  |inr e=>rfl
 |false=>
   rw[if_neg (by rw[hw];decide)] at he;by_cases g2:Lx.digit s[i] < 0
   ·simp only[rs,g2,decide_true];refine bad 3 ho ?_;rw[hd,Lx.hexF,if_neg g1,if_neg (by rw[hw];decide),if_pos g2]
   rw[if_neg g2] at he;by_cases g3:h < 0
   ·simp only[rs,g2,g3,decide_false,decide_true];rw[if_pos g3] at he;refine go _ v _ acc _ hb0.1 hb0.2 (by omega) ?_ ho;rw[he];cases Lx.hexF (Lx.digit s[i]) (s.drop (i+1)) with
   |inl r=>simp only[ext];rw[show r.2+1+(i - (a+1))=r.2+(i+1 - (a+1)) by omega]
   |inr e=>rfl
   ·simp only[rs,g2,g3,decide_false];rw[if_neg g3] at he;have hor:=hexor (a:=h) (b:=Lx.digit s[i]) (by omega) (by omega) (by omega) (by omega);rw[b_shl (by omega),b_or,hor,c_8,wrap8_id (by omega) (by omega)];refine o_app1 (Lx.byte h (Lx.digit s[i])) (byte_nat (by omega) (by omega) (by omega) (by omega)) ho (by omega) fun v' w6 ho=>?_;refine go (-1) v' _ _ _ (by omega) (by omega) (by simp;omega) ?_ ho;rw[he];cases Lx.hexF (-1) (s.drop (i+1)) with
   |inl r=>simp only[ext,List.append_assoc,List.singleton_append];rw[show r.2+1+(i - (a+1))=r.2+(i+1 - (a+1)) by omega]
   |inr e=>rfl
 ·have hi3:i=s.length:=by omega
  simp only[hlt,decide_false,i_f];refine bad 4 ho ?_;rw[hi3,List.drop_length];rfl
end
section
open Eng Go.RowKit
theorem trimLeft_ret (s cs:List UInt8)(w:World)(hcs:cs.length < 4294967281)(ha:cs.all (fun c=>decide (c.toNat < 128))=true):Ret prog 171 #[.string ⟨s.toArray⟩,.string ⟨cs.toArray⟩] w
  (fun v w'=>v=.string ⟨(s.dropWhile (cs.contains ·)).toArray⟩∧Below w.heap.size w w'):=
 Calls.mono (Any.strings_TrimLeft_laid Tryz.lays161 (by kernel_rfl) ⟨s.toArray⟩ ⟨cs.toArray⟩ w (by rw[str_size];exact hcs)
  (fun j b hj=>by
   have:=List.all_eq_true.1 ha b (List.mem_of_getElem? hj);simpa using this)) (by rintro e w' ⟨rfl,h⟩;exact retK ⟨rfl,h⟩)
theorem tw_all {p:UInt8→Bool}:∀l:List UInt8,l.takeWhile p=l↔∀x∈l,p x=true
|[]=>by simp
|c::t=>by
  have ih:=tw_all (p:=p) t;cases h:p c with
 |true=>rw[List.takeWhile_cons_of_pos h];simp[ih,h]
 |false=>rw[List.takeWhile_cons_of_neg (by simp[h])];simp[h]
theorem dw_le {p:UInt8→Bool}(l:List UInt8):(l.dropWhile p).length≤l.length:=(List.dropWhile_sublist p).length_le
theorem contains1_ret (s:List UInt8)(c:UInt8)(w:World):Ret prog 173 #[.string ⟨s.toArray⟩,.string ⟨#[c]⟩] w (fun v w'=>v=.bool (s.contains c)∧w=w'):=by
 refine Calls.mono (Tryz.strings_Contains_one ⟨s.toArray⟩ c w) ?_;rintro e w' ⟨rfl,rfl⟩;refine retK ⟨?_,rfl⟩;have e:decide (0≤Lib.indexByte s c)=s.contains c:=by
  rcases ix_cases c s with ⟨h1,h2,_⟩|⟨i,h1,h2,h3,_⟩
  ·rw[h1];have hn:s.contains c=false:=by
    rw[List.contains_eq_any_beq,List.any_eq_false];intro x hx;have:=(tw_all s).1 h2 x hx;intro h;rw[beq_iff_eq] at h;subst h;simp at this
   rw[hn];rfl
  ·rw[h1];have hy:s.contains c=true:=by
    by_cases h:c∈s
    ·simpa using h
    ·exfalso;have h4:s.takeWhile (fun x=>x != c)=s:=(tw_all s).2 fun x hx=>by
      have:x≠c:=fun e=>h (e▸hx);simpa using this
     rw[h4] at h3;have:=congrArg List.length h3;simp at this;omega
   rw[hy];simp
 rw[←e]
theorem sgn_mem (c:UInt8):([43,45]:List UInt8).contains c=Lx.sgn c:=by
 simp[Lx.sgn]
theorem dig_mem (c:UInt8):([48,49,50,51,52,53,54,55,56,57]:List UInt8).contains c=Lx.dig c:=by
 have:∀n:Fin 256,([48,49,50,51,52,53,54,55,56,57]:List UInt8).contains (UInt8.ofNat n.val)=(decide (48≤n.val)&&decide (n.val≤57)):=by decide +kernel
 have h:=this ⟨c.toNat,c.toNat_lt⟩;simpa[Lx.dig] using h
theorem sgn_not_dig (c:UInt8)(h:Lx.sgn c=true):Lx.dig c=false:=by
 simp only[Lx.sgn,Bool.or_eq_true,decide_eq_true_eq] at h;rcases h with rfl|rfl<;>rfl
theorem class_form (s:List UInt8):(decide (s.length - (s.dropWhile Lx.sgn).length≤1)&&(decide (s.dropWhile Lx.sgn≠[])&&(s.dropWhile Lx.sgn).all Lx.dig))=Lx.intForm s:=by
 cases s with
|nil=>rfl
|cons c t=>
  cases hc:Lx.sgn c with
 |false=>
   have h1:(c::t).dropWhile Lx.sgn=c::t:=by rw[List.dropWhile_cons_of_neg (by simp[hc])]
   have h2:Lx.unsign (c::t)=c::t:=by simp[Lx.unsign,hc]
   rw[h1,Lx.intForm,h2];simp
 |true=>
   have h1:(c::t).dropWhile Lx.sgn=t.dropWhile Lx.sgn:=List.dropWhile_cons_of_pos hc;have h2:Lx.unsign (c::t)=t:=by simp[Lx.unsign,hc]
   rw[h1,Lx.intForm,h2];cases t with
  |nil=>rfl
  |cons d u=>
    cases hd:Lx.sgn d with
   |false=>
     have h3:(d::u).dropWhile Lx.sgn=d::u:=by rw[List.dropWhile_cons_of_neg (by simp[hd])]
     rw[h3];simp
   |true=>
     have h3:(d::u).dropWhile Lx.sgn=u.dropWhile Lx.sgn:=List.dropWhile_cons_of_pos hd;have h4:=dw_le (p:=Lx.sgn) u;have h5:¬((c::d::u).length - ((d::u).dropWhile Lx.sgn).length≤1):=by
      rw[h3];simp only[List.length_cons];omega
     rw[decide_eq_false h5];simp[sgn_not_dig d hd]
theorem intForm_drop {s:List UInt8}(h:Lx.intForm s=true):s.dropWhile Lx.sgn=Lx.unsign s:=by
 cases s with
|nil=>rfl
|cons c t=>
  cases hc:Lx.sgn c with
 |false=>rw[List.dropWhile_cons_of_neg (by simp[hc])];simp[Lx.unsign,hc]
 |true=>
   rw[List.dropWhile_cons_of_pos hc];have h2:Lx.unsign (c::t)=t:=by simp[Lx.unsign,hc]
   rw[Lx.intForm,h2] at h;rw[h2];cases t with
  |nil=>rfl
  |cons d u=>
    cases hd:Lx.sgn d with
   |false=>rw[List.dropWhile_cons_of_neg (by simp[hd])]
   |true=>simp[sgn_not_dig d hd] at h
theorem class_ret (s:List UInt8)(w:World)(hs:s.length≤1099511627776):Ret prog 122 #[.string ⟨s.toArray⟩] w (fun v w'=>v=.int .i64 (if Lx.intForm s then 1 else if s.contains 46 then 2 else 0)∧Below w.heap.size w w'):=by
 refine ret_of fun K hK=>S_lex_class_ok ?_;unfold S_lex_class;refine c_below (Own.start w) (trimLeft_ret s [43,45] w (by decide) rfl) ?_;rintro _ w1 rfl ho;have hds:s.dropWhile (fun x=>([43,45]:List UInt8).contains x)=s.dropWhile Lx.sgn:=by
  congr 1;funext c;exact sgn_mem c
 rw[hds,s_len Tryz.underlying9];rw[s_len Tryz.underlying9];have hle:=dw_le (p:=Lx.sgn) s;have hcf:=class_form s;have tl:∀w2,Own w w2 []→Lx.intForm s=false→CallX prog 173 #[.string ⟨s.toArray⟩,(.string ⟨#[46]⟩)] w2 (pk K) fun t22 w=>
   IfX t22 (K (.returned (.int .i64 2)) w) (K (.returned (.int .i64 0)) w):=by
  intro w2 ho hi;refine c_eq (contains1_ret s 46 w2) ?_;cases hc:s.contains 46 with
 |true=>simp only[rs];exact hK _ _ ⟨by rw[if_neg (by rw[hi];decide),if_pos hc],ho.done⟩
 |false=>simp only[rs];exact hK _ _ ⟨by rw[if_neg (by rw[hi];decide),if_neg (by rw[hc];decide)],ho.done⟩
 simp only[rs];rw[wrap64_id (by omega) (by omega)];by_cases h1:(s.length:Int) - ((s.dropWhile Lx.sgn).length:Int)≤1
 ·have h1':s.length - (s.dropWhile Lx.sgn).length≤1:=by omega
  rw[decide_eq_true h1'] at hcf;simp only[h1,decide_true,rs];by_cases h2:s.dropWhile Lx.sgn≠[]
  ·rw[decide_eq_true h2] at hcf;rw[show (⟨#[]⟩:ByteArray)=⟨([]:List UInt8).toArray⟩ from rfl];simp only[rs,decide_eq_true h2];refine c_below ho (trim_ret (s.dropWhile Lx.sgn) [48,49,50,51,52,53,54,55,56,57] w1 (by omega) (by decide) rfl) ?_;rintro _ w2 rfl ho;have ht:decide (Lib.trimS (s.dropWhile Lx.sgn) [48,49,50,51,52,53,54,55,56,57]=[])=(s.dropWhile Lx.sgn).all Lx.dig:=by
    have hp:Fx.isDig=Lx.dig:=by funext c;rw[←dig_mem c,←digs_contains c]
    have this:=trimS_nil (s.dropWhile Lx.sgn);rw[hp] at this;cases hall:(s.dropWhile Lx.sgn).all Lx.dig with
   |true=>rw[decide_eq_true (this.2 hall)]
   |false=>rw[decide_eq_false (fun e=>by rw[this.1 e] at hall;cases hall)]
   simp only[rs,ht];rw[Bool.true_and,Bool.true_and] at hcf;rw[hcf];cases hi:Lx.intForm s with
  |true=>simp only[i_t];exact hK _ _ ⟨by rw[if_pos hi],ho.done⟩
  |false=>simp only[i_f];exact tl w2 ho hi
  ·rw[decide_eq_false h2,Bool.false_and,Bool.and_false] at hcf;rw[show (⟨#[]⟩:ByteArray)=⟨([]:List UInt8).toArray⟩ from rfl];simp only[rs,decide_eq_false h2,g_un];exact tl w1 ho hcf.symm
 ·have h1':¬(s.length - (s.dropWhile Lx.sgn).length≤1):=by omega
  rw[decide_eq_false h1',Bool.false_and] at hcf;simp only[h1,decide_false,rs,g_un];exact tl w1 ho hcf.symm
theorem val_snoc (c:UInt8)(l:List UInt8)(n:Nat):Lx.val n (l++[c])=10*Lx.val n l+(c.toNat - 48):=by
 unfold Lx.val;rw[List.foldl_append,List.foldl_cons,List.foldl_nil]
theorem lwhole_ret (s:List UInt8)(w:World)(hs:s.length≤1099511627776)(hf:Lx.intForm s=true):Ret prog 123 #[.string ⟨s.toArray⟩] w (fun v w'=>v=pair (Lx.whole s)∧Below w.heap.size w w'):=by
 refine ret_of fun K hK=>S_lex_whole_ok ?_;unfold S_lex_whole;refine c_below (Own.start w) (trimLeft_ret s [43,45] w (by decide) rfl) ?_;rintro _ w1 rfl ho;have hds:s.dropWhile (fun x=>([43,45]:List UInt8).contains x)=Lx.unsign s:=by
  rw[←intForm_drop hf];congr 1;funext c;exact sgn_mem c
 rw[hds];have hall:(Lx.unsign s).all Lx.dig=true:=by
  rw[Lx.intForm,Bool.and_eq_true] at hf;exact hf.2
 have hne:s≠[]:=by rintro rfl;simp[Lx.intForm,Lx.unsign] at hf
 have hlen:(Lx.unsign s).length≤s.length:=by rw[←intForm_drop hf];exact dw_le s
 refine o_range Tryz.underlying9 ho fun b w2 ho=>?_;refine loop (fun vs w'=>∃(i:Nat),vs=[.int .i64 ((min (Lx.val 0 ((Lx.unsign s).take i)) 2147483648:Nat):Int)]∧i≤(Lx.unsign s).length∧Own w w' [.obj b (.stringIter ⟨(Lx.unsign s).toArray⟩ i)])
  (fun _ w'=>match w'.heap[b]? with|some (.stringIter _ i)=>(Lx.unsign s).length - i|_=>0) ⟨0,rfl,by omega,ho⟩ ?_
 rintro vs w3 ⟨i,rfl,hi,ho⟩ _;simp only[S_lex_whole_0,gd];by_cases hlt:i < (Lx.unsign s).length
 ·have hdig:=List.all_eq_true.1 hall _ (List.getElem_mem hlt);have hd2:48≤(Lx.unsign s)[i].toNat∧(Lx.unsign s)[i].toNat≤57:=by simpa[Lx.dig] using hdig
  have h0:w3.heap[b]?=some (.stringIter ⟨(Lx.unsign s).toArray⟩ i):=ho.at_ 0 rfl;refine o_next 0 ho rfl (List.getElem?_eq_getElem hlt) (by omega) fun w4 ho=>?_;have h1:w4.heap[b]?=some (.stringIter ⟨(Lx.unsign s).toArray⟩ (i+1)):=ho.at_ 0 rfl;simp only[ex,i_t,rs];rw[wrap64_id (by omega) (by omega),wrap32_id (by omega) (by omega),c_int (show (Tryz.prog.underlying 21).isSome=true by kernel_rfl) Tryz.underlying2,wrap64_id (n:=((Lx.unsign s)[i].toNat:Int) - 48) (by omega) (by omega)];simp only[rs];rw[wrap64_id (by omega) (by omega),m_min];have e:min (10*((min (Lx.val 0 ((Lx.unsign s).take i)) 2147483648:Nat):Int)+(((Lx.unsign s)[i].toNat:Int) - 48)) 2147483648=((min (Lx.val 0 ((Lx.unsign s).take (i+1))) 2147483648:Nat):Int):=by
   rw[List.take_succ_eq_append_getElem hlt,val_snoc];omega
  rw[e];exact nextX ⟨i+1,rfl,by omega,ho⟩ (by simp only[h0,h1];omega)
 ·rw[o_next_end 0 ho rfl (by omega)];have hi2:i=(Lx.unsign s).length:=by omega
  simp only[ex,i_f,rs,hi2,List.take_length];by_cases hbig:2147483647 < Lx.val 0 (Lx.unsign s)
  ·have h1:(2147483647:Int) < ((min (Lx.val 0 (Lx.unsign s)) 2147483648:Nat):Int):=by omega
   simp only[h1,decide_true,i_t];exact hK _ _ ⟨by rw[Lx.whole,if_pos hbig],ho.done⟩
  ·have h1:¬(2147483647:Int) < ((min (Lx.val 0 (Lx.unsign s)) 2147483648:Nat):Int):=by omega
   simp only[h1,decide_false,i_f];refine join fun J hJ=>?_;obtain⟨c,t,rfl⟩:∃c t,s=c::t:=by cases s with|nil=>exact absurd rfl hne|cons c t=>exact⟨c,t,rfl⟩
   rw[s_ix (c:=c) Tryz.underlying9 (by omega) rfl];have e1:=u8d c 45 45 rfl;rw[Nat.min_eq_left (by omega)];by_cases h45:c=45
   ·simp only[rs,e1,decide_eq_true h45];refine hJ _ _ fun _=>?_;simp only[S_lex_whole_1,gd];rw[wrap64_id (by omega) (by omega)];exact hK _ _ ⟨by rw[Lx.whole,if_neg hbig,if_pos (by rw[h45];rfl)],ho.done⟩
   ·simp only[rs,e1,decide_eq_false h45];refine hJ _ _ fun _=>?_;simp only[S_lex_whole_1,gd];exact hK _ _ ⟨by rw[Lx.whole,if_neg hbig,if_neg (by simpa using h45)],ho.done⟩
theorem word_ret (s:List UInt8)(a:Nat)(w:World)(hs:s.length≤1099511627776)(ha:a≤s.length):Ret prog 78 #[cutV s a] w (fun v w'=>v=tokR (Lx.word s a)∧Below w.heap.size w w'):=by
 refine ret_of fun K hK=>S_lex_cutter_word_ok ?_;unfold S_lex_cutter_word;refine o_cut s a (Own.start w) fun b1 w1 ho=>?_;refine o_tok ho fun b w2 ho=>?_;simp only[cut_v ho 1 rfl,fa_c1,cut_a ho 1 rfl];refine c_below ho (run_ret s a a w2 hs ha) ?_;rintro _ w3 rfl ho;have hto:=Lx.run_le s ha;have hto2:a≤Lx.run s a:=by unfold Lx.run;omega
 simp only[fa_c0,fa_c1,cut_a ho 1 rfl,cut_s ho 1 rfl];rw[s_cut rfl rfl hto2 hto];have hcl:(Lx.cut s a (Lx.run s a)).length≤s.length:=by rw[cut_length hto];omega
 have hW:Lx.word s a=Lx.wordT (Lx.cut s a (Lx.run s a)) a (Lx.run s a):=rfl;generalize hT:Lx.cut s a (Lx.run s a)=t at *;generalize Lx.run s a=r at *;refine join fun J hJ=>?_;refine c_below ho (class_ret t w3 (by omega)) ?_;rintro _ w4 rfl ho;have fin:∀w5 n,Own w w5 [tokE b Lx.none_,cutE b1 s a]→Lx.wordT t a r=Lx.told 5 a r t 127→J [.int .i64 n] w5:=by
  intro w5 n ho he;refine hJ _ _ fun _=>?_;simp only[S_lex_cutter_word_0,cut_v ho 1 rfl];exact tok_tail 0 ho rfl (told_ret s a 5 r t 127 _) fun w' hb=>hK _ _ ⟨by rw[hW,he],hb⟩
 by_cases hi:Lx.intForm t=true
 ·rw[if_pos hi];simp only[rs,decide_true];refine c_below ho (lwhole_ret t w4 (by omega) hi) ?_;rintro _ w5 rfl ho;simp only[pair,ex,rs];by_cases he:(Lx.whole t).2≠0
  ·simp only[decide_eq_true he,i_t];exact tok_tail 0 ho rfl (refused_ret _ _) fun w' hb=>hK _ _ ⟨by rw[hW,Lx.wordT,if_pos hi,if_pos he],hb⟩
  ·simp only[decide_eq_false he,i_f,fa_c1,cut_a ho 1 rfl,m_tokn];exact tok_put 0 ho rfl fun w' ho=>hK _ _ ⟨by rw[hW,Lx.wordT,if_pos hi,if_neg he],ho.done⟩
 rw[if_neg hi];by_cases hp:t.contains 46=true
 ·rw[if_pos hp];simp only[rs,decide_true,show ¬((2:Int)=1) by decide,decide_false];refine c_below ho (pread_ret t w4 (by omega)) ?_;rintro _ w5 rfl ho;simp only[pair,ex,rs];by_cases he:(Fx.read t).2=0
  ·simp only[decide_eq_true he,i_t,fa_c1,cut_a ho 1 rfl,m_tokn];exact tok_put 0 ho rfl fun w' ho=>hK _ _ ⟨by rw[hW,Lx.wordT,if_neg hi,if_pos ⟨hp,he⟩],ho.done⟩
  simp only[decide_eq_false he,i_f];by_cases he2:(Fx.read t).2=2
  ·simp only[he2,decide_true,i_t];exact tok_tail 0 ho rfl (refused_ret _ _) fun w' hb=>hK _ _ ⟨by rw[hW,Lx.wordT,if_neg hi,if_neg (fun h=>he h.2),if_pos ⟨hp,he2⟩],hb⟩
  ·simp only[he2,decide_false,i_f];exact fin _ _ ho (by rw[Lx.wordT,if_neg hi,if_neg (fun h=>he h.2),if_neg (fun h=>he2 h.2)])
 ·rw[if_neg hp];simp only[rs,show ¬((0:Int)=1) by decide,show ¬((0:Int)=2) by decide,decide_false];exact fin _ _ ho (by rw[Lx.wordT,if_neg hi,if_neg (fun h=>hp h.1),if_neg (fun h=>hp h.1)])
end
section
open Eng Go.RowKit
theorem begins_one (s:List UInt8)(c:UInt8)(k:Nat)(hk:k≤s.length):begins s [c] (k:Int)=decide ((s.drop k).head?=some c):=by
 unfold begins;rw[Int.toNat_natCast,decide_eq_true (by omega),decide_eq_true (by omega)];cases hd:s.drop k with
|nil=>simp
|cons d t=>
  by_cases h:d=c
  ·subst h;simp[List.isPrefixOf]
  ·have h11:(c==d)=false:=by simpa using fun e:c=d=>h e.symm
   have h12:¬(some d=some c):=by simpa using h
   rw[List.head?_cons,decide_eq_false h12];simp[List.isPrefixOf,h11]
theorem m_cut {w:World}{PK:PKT}{K:VWP}{s:List UInt8}{a:Int}:DoX prog (mBuild 108 #[(0,.string ⟨s.toArray⟩),(1,.int .i64 a)]) w PK K=K (cutV s a) w:=do_eq (by kernel_rfl)
theorem next_ret (s:List UInt8)(i:Int)(w:World)(hs:s.length≤1099511627776):Ret prog 35 #[.string ⟨s.toArray⟩,.int .i64 i] w (fun v w'=>v=tokR (Lx.next s i)∧Below w.heap.size w w'):=by
 refine ret_of fun K hK=>S_lex_Next_ok ?_;unfold S_lex_Next;refine o_tok (Own.start w) fun b w1 ho=>?_;have out:(i < 0∨(s.length:Int) < i)→CallX prog 71 #[(.int .i64 1)] w1 (pk K) fun t42 w=>
   DoX prog (mExt t42 0) w (pk K) fun t43 w=>
   DoX prog (mExt t42 1) w (pk K) fun t44 w=>
   DoX prog (mStore 58 (.pointer (some ⟨b,0,none⟩)) t43) w (pk K) fun _ w=>
   RetX prog [.cell (.pointer (some ⟨b,0,none⟩)) 58,.val t44] w K:=fun h=>
  tok_tail 0 ho rfl (refused_ret 1 _) fun w' hb=>hK _ _ ⟨by rw[Lx.next,if_pos h],hb⟩
 by_cases h1:i < 0
 ·simp only[rs,h1,decide_true,g_un];exact out (.inl h1)
 simp only[rs,h1,decide_false,s_len Tryz.underlying9];by_cases h2:(s.length:Int) < i
 ·simp only[rs,h2,decide_true];exact out (.inr h2)
 simp only[rs,h2,decide_false];have hsk:Lx.skipI s i=((Lx.skip s i.toNat:Nat):Int):=by rw[Lx.skipI,if_neg (by omega)]
 have hN:Lx.next s i=Lx.token s (Lx.skip s i.toNat):=by rw[Lx.next,if_neg (by omega)]
 have hle:=Lx.skip_le s (k:=i.toNat) (by omega);refine c_eq (skip_ret s i w1 (by omega)) ?_;rw[hsk];generalize Lx.skip s i.toNat=a at *;rw[m_cut];refine o_new (fun b=>.pointer (some ⟨b,0,none⟩)) (cutC [] 0) 108 (fun _=>by kernel_rfl) ho fun b1 w2 ho=>?_;refine o_put 0 ho rfl (new:=cutC s a) (show _=some 2 by kernel_rfl) (by
  intro v hv;simp only[cutC,List.mem_cons,List.not_mem_nil,or_false] at hv;rcases hv with rfl|rfl<;>rfl) rfl fun w3 ho=>?_
 have ho:Own w w3 [cutE b1 s a,tokE b Lx.none_]:=ho;simp only[fa_c1,cut_a ho 0 rfl,s_len Tryz.underlying9,rs];by_cases hend:(a:Int)=(s.length:Int)
 ·simp only[hend,decide_true,i_t];rw[←hend];simp only[cut_a ho 0 rfl,m_tok2];refine tok_put 1 ho rfl fun w' ho=>hK _ _ ⟨?_,ho.done⟩;rw[hN,Lx.token,List.drop_eq_nil_of_le (by omega)]
 have ha:a < s.length:=by omega
 have hd:=Lx.drop_cons ha;simp only[hend,decide_false,i_f];have f1:fOff prog 108 1=some 1:=by kernel_rfl
 have hw1:IntKind.wrap .i64 ((a:Int)+1)=((a+1:Nat):Int):=by rw[wrap64_id (by omega) (by omega)];omega
 refine quiet (q_do _ (fun _=>run_fa f1) (q_at _ (fun _ hb=>cutr_a (ho.grow hb) 0 rfl) (q_do _ (fun _=>run_fa f1) (q_at _ (fun _ hb=>cutr_a (ho.grow hb) 0 rfl) (q_do _ (fun _=>by rw[r_add,hw1]) ?_)))));refine q_do (.string ⟨([s[a]]:List UInt8).toArray⟩) (fun w=>?_) ?_
 ·have:=@run_s_slice prog w 9 s .i64 .i64 (a:Int) ((a+1:Nat):Int) Tryz.underlying9 (by omega) (by omega) (by omega);rw[this,show (s.drop (a:Int).toNat).take (((a+1:Nat):Int).toNat - (a:Int).toNat)=Lx.cut s a (a+1) from rfl,cut_one ha]
 refine q_do _ (fun _=>run_fa f1) (q_at _ (fun _ hb=>cutr_a (ho.grow hb) 0 rfl) (q_do _ (fun _=>by rw[r_add,hw1]) ?_));refine q_call (.bool (decide ((s.drop (a+1)).head?=some s[a]))) (fun w hb=>ret_same ?_ hb) ?_
 ·rw[←begins_one s s[a] (a+1) (by omega)];exact begins_ret s [s[a]] _ w
 intro w4 hb;have ho:=ho.grow hb;simp only[fa_c1,cut_a ho 0 rfl,s_at ha];have hT:Lx.next s i=if s[a]=91∨s[a]=93∨s[a]=123∨s[a]=125 then Lx.mark s a 1
  else if s[a]=60 then (if (s.drop (a+1)).head?=some s[a] then Lx.mark s a 2 else Lx.hex s a)
  else if s[a]=62 then (if (s.drop (a+1)).head?=some s[a] then Lx.mark s a 2 else Lx.refused 3)
  else if s[a]=47 then Lx.name s a
  else if s[a]=40 then Lx.text s a
  else if s[a]=41 then Lx.refused 3
  else Lx.word s a:=by rw[hN,Lx.token,hd]
 refine join fun J hJ=>?_;have rest:∀b:Bool,(b=true↔(s[a]=91∨s[a]=93∨s[a]=123∨s[a]=125))→J [.bool b] w4:=by
  intro bb hbb;refine hJ _ _ fun _=>?_;simp only[S_lex_Next_0,gd];cases bb with
 |true=>
   simp only[i_t,cut_v ho 0 rfl];exact tok_tail 1 ho rfl (mark_ret s a 1 _ hs (by omega)) fun w' hb=>hK _ _ ⟨by rw[hT,if_pos (hbb.1 rfl)],hb⟩
 |false=>
   have hn:¬(s[a]=91∨s[a]=93∨s[a]=123∨s[a]=125):=fun h=>by have:=hbb.2 h;cases this
   rw[if_neg hn] at hT;have two:(s.drop (a+1)).head?=some s[a]→a+2≤s.length:=by
    intro h;cases hdd:s.drop (a+1) with
   |nil=>rw[hdd] at h;cases h
   |cons x t=>
     have:=congrArg List.length hdd;simp at this;omega
   have q1:=u8d s[a] 60 60 rfl;have q2:=u8d s[a] 62 62 rfl;have q3:=u8d s[a] 47 47 rfl;have q4:=u8d s[a] 40 40 rfl;have q5:=u8d s[a] 41 41 rfl;by_cases g1:s[a]=60
   ·simp only[rs,q1,decide_eq_true g1];rw[if_pos g1] at hT;by_cases g:(s.drop (a+1)).head?=some s[a]
    ·simp only[decide_eq_true g,i_t,cut_v ho 0 rfl];exact tok_tail 1 ho rfl (mark_ret s a 2 _ hs (two g)) fun w' hb=>hK _ _ ⟨by rw[hT,if_pos g],hb⟩
    ·simp only[decide_eq_false g,i_f,cut_v ho 0 rfl];exact tok_tail 1 ho rfl (cut_hex_ret s a _ hs ha) fun w' hb=>hK _ _ ⟨by rw[hT,if_neg g],hb⟩
   rw[if_neg g1] at hT;simp only[rs,q1,decide_eq_false g1];by_cases g2:s[a]=62
   ·simp only[rs,q2,decide_eq_true g2];rw[if_pos g2] at hT;by_cases g:(s.drop (a+1)).head?=some s[a]
    ·simp only[decide_eq_true g,i_t,cut_v ho 0 rfl];exact tok_tail 1 ho rfl (mark_ret s a 2 _ hs (two g)) fun w' hb=>hK _ _ ⟨by rw[hT,if_pos g],hb⟩
    ·simp only[decide_eq_false g,i_f];exact tok_tail 1 ho rfl (refused_ret 3 _) fun w' hb=>hK _ _ ⟨by rw[hT,if_neg g],hb⟩
   rw[if_neg g2] at hT;simp only[rs,q2,decide_eq_false g2];by_cases g3:s[a]=47
   ·simp only[rs,q3,decide_eq_true g3,cut_v ho 0 rfl];exact tok_tail 1 ho rfl (name_ret s a _ hs ha) fun w' hb=>hK _ _ ⟨by rw[hT,if_pos g3],hb⟩
   rw[if_neg g3] at hT;simp only[rs,q3,decide_eq_false g3];by_cases g4:s[a]=40
   ·simp only[rs,q4,decide_eq_true g4,cut_v ho 0 rfl];exact tok_tail 1 ho rfl (text_ret s a _ hs ha) fun w' hb=>hK _ _ ⟨by rw[hT,if_pos g4],hb⟩
   rw[if_neg g4] at hT;simp only[rs,q4,decide_eq_false g4];by_cases g5:s[a]=41
   ·simp only[rs,q5,decide_eq_true g5];exact tok_tail 1 ho rfl (refused_ret 3 _) fun w' hb=>hK _ _ ⟨by rw[hT,if_pos g5],hb⟩
   rw[if_neg g5] at hT;simp only[rs,q5,decide_eq_false g5,cut_v ho 0 rfl];exact tok_tail 1 ho rfl (word_ret s a _ hs (by omega)) fun w' hb=>hK _ _ ⟨by rw[hT],hb⟩
 have p1:=u8d s[a] 91 91 rfl;have p2:=u8d s[a] 93 93 rfl;have p3:=u8d s[a] 123 123 rfl;have p4:=u8d s[a] 125 125 rfl;by_cases g1:s[a]=91
 ·simp only[rs,p1,decide_eq_true g1];exact rest true (by simp[g1])
 simp only[rs,p1,decide_eq_false g1];by_cases g2:s[a]=93
 ·simp only[rs,p2,decide_eq_true g2];exact rest true (by simp[g2])
 simp only[rs,p2,decide_eq_false g2];by_cases g3:s[a]=123
 ·simp only[rs,p3,decide_eq_true g3];exact rest true (by simp[g3])
 simp only[rs,p3,decide_eq_false g3];by_cases g4:s[a]=125
 ·simp only[rs,p4,decide_eq_true g4];exact rest true (by simp[g4])
 simp only[rs,p4,decide_eq_false g4];exact rest false (by simp[g1,g2,g3,g4])
end
end Go.Proofs.YtkejpieaafeblaaGreatDoor










namespace Go.Proofs.YtkejpieaafeblaaGreatDoor
section
open Eng Go.RowKit
section
variable {w:World}{PK:PKT}{K:VWP}{S:Nat→Prop}{w0:World}{L:List Ent}
theorem fa_t0 {b:Nat}:DoX prog (mFA 58 (.pointer (some ⟨b,0,none⟩)) 0) w PK K=K (.pointer (some ⟨b,0,none⟩)) w:=f_addr (show fOff prog 58 0=some 0 by kernel_rfl)
theorem fa_t2 {b:Nat}:DoX prog (mFA 58 (.pointer (some ⟨b,0,none⟩)) 2) w PK K=K (.pointer (some ⟨b,2,none⟩)) w:=f_addr (show fOff prog 58 2=some 2 by kernel_rfl)
end
end
end Go.Proofs.YtkejpieaafeblaaGreatDoor

namespace Go.Proofs.YtkejpieaafeblaaGreatDoor
section
open Eng Go.RowKit
theorem draw {w:World}{F:World→Prop}(h:F w.drew):DrawX w F:=⟨h⟩
end
end Go.Proofs.YtkejpieaafeblaaGreatDoor




namespace Go.Proofs.YtkejpieaafeblaaGreatDoor
section
open Eng Go.RowKit
theorem Tb.mono {w w':World}(h:Tb w)(hb:Below w.heap.size w w'):Tb w':=
 Go.Joins.tab_stays (show Tryz.prog.globalNamed "internal/strconv.uint64pow10"=some 0 by kernel_rfl) h hb (Nat.le_refl _)
theorem Tb.own {w w':World}{L:List Ent}(h:Tb w)(ho:Own w w' L):Tb w':=h.mono ho.done
end
section
open Eng Go.RowKit
theorem smp1:Lx.next [55,46] 0=(⟨2,0,2,70000,[]⟩,0):=by decide +kernel
theorem smp2:Lx.next [32,55,120] 0=(⟨5,1,3,0,[55,120]⟩,0):=by decide +kernel
theorem smp3:Lx.next [45,48] 0=(⟨1,0,2,0,[]⟩,0):=by decide +kernel
theorem smp4:Lx.next [41] 0=(Lx.none_,3):=by decide +kernel
theorem smp5:Lx.next [40,97] 0=(Lx.none_,4):=by decide +kernel
end
end Go.Proofs.YtkejpieaafeblaaGreatDoor







namespace Go.Proofs.YtkejpieaafeblaaGreatDoor
section
open Eng Go.RowKit
section
variable {w:World}{PK:PKT}{K:VWP}{S:Nat→Prop}{w0:World}{L:List Ent}
end
abbrev StrRow (v:Value)(l:List (List UInt8)):Ent:=.row 9 1 v l.length (strsV l)
end
section
open Eng Go.RowKit
theorem kid_at {A:Nat→Prop}{wb:World}{o:Ob}{vk vc:Value}{cs:List Value}(h:ObAt A wb o vk vc cs){i:Nat}(hi:i < o.kids.length) :
  ∃v p,OV A wb v o.kids[i]∧∀W,Kept A wb W→(mIA 23 vc (.int .i64 (i:Int))).run prog W=.ok (.value (.pointer (some p))) W∧(mLoad 25 (.pointer (some p))).run prog W=.ok (.value v) W:=by
 obtain⟨b,off,cap,rfl,_⟩:=sl_open h.kids.1 (by omega);obtain⟨a,hl,hov,hget⟩:=OVs.get _ _ i hi h.all;refine⟨.agg a.toArray,⟨b,off+i*6,none⟩,hov,fun W hk=>⟨?_,?_⟩⟩
 ·have:=run_ia (P:=prog) (T:=23) (b:=b) (off:=off) (cap:=cap) (n:=o.kids.length) (k:=.i64) (i:=(i:Int)) (w:=W) Tryz.underlying23 szOb (by omega) (by omega);rw[Int.toNat_natCast] at this;exact this
 ·obtain⟨b',off',cap',he,hc⟩:=sl_open (h.kept hk).kids.1 (by omega);cases he;refine run_load_at (v:=.agg a.toArray) (AtV.agg aggOb hl fun j v hj=>?_);rw[Nat.add_assoc];exact hc _ _ (hget j v hj)
theorem key_at {A:Nat→Prop}{wb:World}{o:Ob}{vk vc:Value}{cs:List Value}(h:ObAt A wb o vk vc cs){i:Nat}(hi:i < o.keys.length) :
  ∃p,∀W,Kept A wb W→(mIA 22 vk (.int .i64 (i:Int))).run prog W=.ok (.value (.pointer (some p))) W∧(mLoad 9 (.pointer (some p))).run prog W=.ok (.value (.string ⟨o.keys[i].toArray⟩)) W:=by
 obtain⟨b,off,cap,rfl,_⟩:=sl_open h.keys.1 (by omega);refine⟨⟨b,off+i,none⟩,fun W hk=>⟨?_,?_⟩⟩
 ·have:=run_ia (P:=prog) (T:=22) (b:=b) (off:=off) (cap:=cap) (n:=o.keys.length) (k:=.i64) (i:=(i:Int)) (w:=W) Tryz.underlying22 (show _=some 1 by kernel_rfl) (by omega) (by omega);rw[Int.toNat_natCast,Nat.mul_one] at this;exact this
 ·obtain⟨b',off',cap',he,hc⟩:=sl_open (h.kept hk).keys.1 (by omega);cases he;exact run_load_cell nStr5 (hc i _ (strsV_get hi))
theorem sl_one5 {w:World}{v:Value}{sz n:Nat}{cs:List Value}(h:Sl w v sz n cs):v.oneCell'=true:=by
 obtain⟨_,a,cap,rfl,_⟩:=h;rfl
theorem strsV_one' {l:List (List UInt8)}:∀x∈strsV l,x.oneCell'=true:=by
 intro x hx;obtain⟨y,_,rfl⟩:=List.mem_map.1 hx;rfl
section
variable {w:World}{PK:PKT}{K:VWP}{S:Nat→Prop}{w0:World}{L:List Ent}
theorem o_appSs (i:Nat){v v2:Value}{xs ys:List (List UInt8)}{cs:Array Bool}(ho:OwnS S w0 w L)(hi:L[i]?=some (StrRow v xs))(hs:Sl w v2 1 ys.length (strsV ys))(hb:xs.length+ys.length≤1099511627776)
  (k:∀v' w',OwnS S w0 w' (L.set i (StrRow v' (xs++ys)))→K v' w'):DoX prog (mB .append #[22,22] 22 cs #[v,v2]) w PK K:=by
 refine o_append i Tryz.underlying22 (show elB prog 9 1 16=true by kernel_rfl) (by decide) ho hi hs strsV_one' (by omega) (by omega) fun v' w' h=>k v' w' ?_;have e:StrRow v' (xs++ys)=.row 9 1 v' (xs.length+ys.length) (strsV xs++strsV ys):=by
  rw[StrRow,List.length_append];simp[strsV]
 rw[e];exact h
theorem o_appS1 (i:Nat){v:Value}{xs:List (List UInt8)}{y:List UInt8}{cs:Array Bool}{PK2:PKT}(ho:OwnS S w0 w L)(hi:L[i]?=some (StrRow v xs))(hb:xs.length≤100000000000)
  (k:∀v' w',OwnS S w0 w' (L.set i (StrRow v' (xs++[y])))→K v' w') :
  DoX prog (mBuildS 22 1 #[(0,.string ⟨y.toArray⟩)]) w PK fun t w=>DoX prog (mB .append #[22,22] 22 cs #[v,t]) w PK2 K:=by
 refine o_new (fun b=>.slice (some ⟨b,0,none⟩) 1 1) [.string ⟨y.toArray⟩] 9 (fun _=>by kernel_rfl) ho fun nb w4 h4=>?_;refine o_appSs (i+1) h4 (by rw[List.getElem?_cons_succ];exact hi) (ys:=[y]) (h4.sl 0 rfl 1 1 1 rfl) (by simp;omega) fun v' w5 h5=>k v' w5 h5.tail
end
theorem why_fields {d:Nat}{o:Ob}(h:Vl.why d o=0):d≤24∧Vl.usesOk o=true∧¬(o.k=9∧1 < d)∧Vl.fits o=true∧o.s.length≤Vl.long o.k∧o.kids.length≤8191∧Vl.form o=true:=by
 unfold Vl.why at h;split at h
 ·cases h
 split at h
 ·cases h
 split at h
 ·cases h
 split at h
 ·cases h
 split at h
 ·cases h
 split at h
 ·cases h
 rename_i h1 h2 h3 h4 h5 h6
 rw[not_or] at h2;exact⟨by omega,by simpa using h2.1,h2.2,by simpa using h3,by omega,by omega,by simpa using h6⟩
end
section
open Eng Go.RowKit
theorem Eng.Mem.le.trans {M N O:Mem}(h:M.le N)(k:N.le O):M.le O:=Mem.le_trans h k
theorem strsV_one5 {l:List (List UInt8)}:∀x∈strsV l,x.oneCell'=true:=by
 intro x hx;obtain⟨y,_,rfl⟩:=List.mem_map.1 hx;rfl
theorem urow_one {w:World}{T:TypeId}{sz:Nat}{v:Value}{n:Nat}{xs:List Value}(h:(Ent.urow T sz v n xs).is w):v.oneCell'=true:=by
 rcases (show w.ownsRow 0 T sz v n xs from h).2 with ⟨rfl,_⟩|⟨g,cap,cur,rfl,_⟩<;>rfl
theorem ovs_one {A:Nat→Prop}{w:World}:∀{os:List Ob} {cs:List Value},OVs A w cs os→∀x∈cs,x.oneCell'=true
|[],cs,h=>by rw[OVs] at h;subst h;intro x hx;cases hx
|o::os,cs,h=>by
  rw[OVs] at h;obtain⟨a,rest,rfl,hl,h1,h2⟩:=h;intro x hx;rcases List.mem_append.1 hx with hx|hx
  ·obtain⟨vk,vc,cs',he,hk⟩:=h1.open;have e:a.toArray=(obC o vk vc).toArray:=by injection he
   have e:a=obC o vk vc:=by simpa using congrArg Array.toList e
   subst e;exact obC_one o hk.keys.one hk.kids.one x hx
  ·exact ovs_one h2 x hx
theorem ovs_app {A:Nat→Prop}{w:World}:∀{os ps:List Ob} {cs ds:List Value},OVs A w cs os→OVs A w ds ps→OVs A w (cs++ds) (os++ps)
|[],ps,cs,ds,h,k=>by rw[OVs] at h;subst h;simpa using k
|o::os,ps,cs,ds,h,k=>by
  rw[OVs] at h;obtain⟨a,rest,rfl,hl,h1,h2⟩:=h;rw[List.cons_append,OVs];exact⟨a,rest++ds,by simp,hl,h1,ovs_app h2 k⟩
theorem ovs_1 {A:Nat→Prop}{w:World}{o:Ob}{vk vc:Value}(h:OV A w (obV o vk vc) o):OVs A w (obC o vk vc) [o]:=by
 rw[OVs];exact⟨obC o vk vc,[],by simp,rfl,h,OVs.nil⟩
theorem ObAt.le {M N:Mem}{o:Ob}{vk vc:Value}{cs:List Value}(hl:M.le N)(h:ObAt M.A M.w o vk vc cs):ObAt N.A N.w o vk vc cs:=⟨h.keys.le hl,h.kids.le hl,h.all.le hl⟩
theorem obAt_mk {M:Mem}{k n g:Int}{s:List UInt8}{keys:List (List UInt8)}{kids:List Ob}{vk vc:Value}{cs:List Value}(h1:SlA M.A M.w vk 1 keys.length (strsV keys))(h2:SlA M.A M.w vc 6 kids.length cs)(h3:OVs M.A M.w cs kids):ObAt M.A M.w (.mk k n g s keys kids) vk vc cs:=⟨h1,h2,h3⟩
theorem ob0_ov (M:Mem):OV M.A M.w (obV Vl.ob0 (.slice none 0 0) (.slice none 0 0)) Vl.ob0:=(obAt_mk (M:=M) (keys:=[]) (kids:=[]) (SlA.nil _ _ _ _) (SlA.nil _ _ _ _) OVs.nil).ov
theorem clone1_ret (o:Ob){vk vc:Value}(hk:vk.oneCell'=true)(hc:vc.oneCell'=true)(w:World):Ret prog 126 #[obV o vk vc] w (fun v w'=>v=obV o vk vc∧Below w.heap.size w w'):=by
 refine ret_of fun K hK=>S_value_Clone_1_ok ?_;unfold S_value_Clone_1;refine o_obb o hk hc (Own.start w) fun b w1 ho=>?_;refine o_oba ho fun b2 w2 ho=>?_;rw[ob_v ho 1 rfl];refine ob_put 0 hk hc ho rfl fun w3 ho=>?_;exact ret_v1 (rv_cell (ho.agg 0 rfl aggOb)) (hK _ _ ⟨rfl,ho.done⟩)
theorem clone1_plain:plainB prog 126=true:=by kernel_rfl
abbrev cloneF:Value:=.func (.func 126) #[] #[]
theorem changed_ret (n:Nat):∀(o:Ob) (v:Value) (M:Mem) (w:World),o.wt≤n→o.wt≤100000000000→M.has w→OV M.A M.w v o→RetM prog 125 #[v,cloneF] M w (fun v' N=>OV N.A N.w v' o):=by
 induction n with
|zero=>intro o v M w h;have:=o.wt_pos;omega
|succ n ih=>
 intro o v M w hn hw hM hv;obtain⟨vk,vc,cs,rfl,ha⟩:=hv.open;have hww:Ob.wts o.kids≤100000000000:=by cases o;rw[Ob.wt] at hw;simp only[Ob.kids];omega
 have hkt:Pl.tot o.keys≤100000000000:=by cases o;rw[Ob.wt] at hw;simp only[Ob.keys];omega
 have hlk:=Ob.len_wts o.kids;have hkl:=Pl.length_tot o.keys;refine retM_of hM fun K hK=>S_value_changed_ok ?_;unfold S_value_changed;refine o_obb o ha.keys.one ha.kids.one (OwnS.memS hM) fun b w1 ho=>?_;refine o_oba ho fun b4 w2 ho=>?_;rw[ob_v ho 1 rfl];refine c_val clone1_plain (c_below ho (R:=fun v=>v=obV o vk vc) (clone1_ret o ha.keys.one ha.kids.one w2) ?_);rintro _ w3 rfl ho;refine ob_put 1 ha.keys.one ha.kids.one ho rfl fun w4 ho=>?_;rw[fa_o4,ob_keys ho 1 rfl];refine c_ret (sclone_s_ret vk _ _ w4 (ha.keys.now (ho.hasM 2 rfl)) strsV_one5 (by omega)) fun vk' w5 hnew=>?_;have ho:=ho.join hnew;have ho:OwnS M.A w w5 [.urow 9 1 vk' o.keys.length (strsV o.keys),obE b4 ob0 (.slice none 0 0) (.slice none 0 0),obE b o vk vc,.mem M]:=ho;have hk1:vk'.oneCell'=true:=urow_one (ho.at_ 0 rfl);rw[fa_o4];refine o_store 2 ho rfl (by kernel_rfl) hk1 (show 0+4 < 6 by omega) fun w6 ho=>?_;have ho:OwnS M.A w w6 [.urow 9 1 vk' o.keys.length (strsV o.keys),obE b4 ob0 (.slice none 0 0) (.slice none 0 0),obE b o vk' vc,.mem M]:=ho;obtain⟨N,hMN,hkeys,ho⟩:=ho.freezeU 2 rfl;have ho:OwnS M.A w w6 [obE b4 ob0 (.slice none 0 0) (.slice none 0 0),obE b o vk' vc,.mem N]:=ho;refine join fun J hJ=>?_;have fin:∀(W:World) (N':Mem) (vc':Value) (cs':List Value),OwnS M.A w W [obE b4 ob0 (.slice none 0 0) (.slice none 0 0),obE b o vk' vc',.mem N']→N.le N'→vc'.oneCell'=true→SlA N'.A N'.w vc' 6 o.kids.length cs'→OVs N'.A N'.w cs' o.kids→J [] W:=by
  intro W N' vc' cs' ho hle hc1 h1 h2;refine hJ _ _ fun _=>?_;unfold S_value_changed_1;rw[ob_v ho 1 rfl];refine ob_put 0 hk1 hc1 ho rfl fun w7 ho=>?_;refine ret_v1 (rv_cell (ho.agg 0 rfl aggOb)) (hK _ _ N' _ 2 ho rfl (hMN.trans hle) ?_);exact ObAt.ov (⟨hkeys.le hle,h1,h2⟩:ObAt N'.A N'.w o vk' vc' cs')
 have hav:=ha.le hMN;rw[fa_o5,ob_kids ho 1 rfl];obtain⟨a,cap,rfl,hnil⟩:∃a cap,vc=.slice a o.kids.length cap∧(a=none→o.kids.length=0):=by
  obtain⟨⟨_,a,cap,e,h1,_⟩,_⟩:=ha.kids;exact⟨a,cap,e,h1⟩
 rw[n_nilS Tryz.underlying23];cases a with
|none=>
  simp only[Option.isNone_none,Bool.not_true,i_f];exact fin _ N _ _ ho N.le_refl rfl hav.kids hav.all
|some p=>
  simp only[Option.isNone_some,Bool.not_false,i_t];rw[fa_o5,ob_kids ho 1 rfl,sl_len_any Tryz.underlying23];refine o_makeN (sz:=6) (bytes:=88) Tryz.underlying23 (by kernel_rfl) (by omega) (by omega) ho fun g w7 zs hzs ho=>?_;have ho:=ho.toU 6 o.kids.length o.kids.length hzs (Nat.le_refl _) (by omega);rw[List.take_of_length_le (by omega)] at ho;rw[fa_o5,ob_kids ho 2 rfl,sl_len_any Tryz.underlying23];refine loop (fun vs W=>∃(i:Nat) (N':Mem) (cs' zs':List Value),vs=[.int .i64 i]∧i≤o.kids.length∧N.le N'∧OVs N'.A N'.w cs' (o.kids.take i)∧cs'.length=i*6 ∧
    OwnS M.A w W [.urow 25 6 (.slice (some ⟨g,0,none⟩) o.kids.length o.kids.length) o.kids.length (cs'++zs'),obE b4 ob0 (.slice none 0 0) (.slice none 0 0),obE b o vk' (.slice (some p) o.kids.length cap),.mem N']) (fun vs _=>o.kids.length - n0 vs)
   ⟨0,N,[],zs,rfl,by omega,N.le_refl,OVs.nil,rfl,ho⟩ ?_
  clear ho;rintro vs w8 ⟨i,N',cs',zs',rfl,hi,hle,hcs',hl',ho⟩ _;simp only[S_value_changed_0,gd,rs];have hrl:=(show w8.ownsRow 0 25 6 _ _ (cs'++zs') from ho.at_ 0 rfl).1;rw[List.length_append,hl'] at hrl;by_cases hlt:(i:Int) < (o.kids.length:Int)
  ·have hi':i < o.kids.length:=by omega
   simp only[hlt,decide_true,i_t];obtain⟨x,q,hx,hrx⟩:=kid_at (hav.le hle) hi';obtain⟨r1,r2⟩:=hrx w8 (ho.hasM 3 rfl);refine do_eq r1 |>.mpr (do_eq r2 |>.mpr ?_);obtain⟨xk,xc,xcs,rfl,hxa⟩:=hx.open;refine o_oba ho fun b7 w9 ho=>?_;refine ob_put 0 hxa.keys.one hxa.kids.one ho rfl fun w10 ho=>?_;rw[ob_v ho 0 rfl];have hkw:=kid_wt hi';refine c_mem ho 4 rfl (ih _ _ N' w10 (by omega) (by omega) (ho.hasM 4 rfl) hx) fun y N2 w11 hle2 hy ho=>?_;obtain⟨yk,yc,ycs,rfl,hya⟩:=hy.open;have ho:OwnS M.A w w11 [.urow 25 6 (.slice (some ⟨g,0,none⟩) o.kids.length o.kids.length) o.kids.length (cs'++zs'),obE b4 ob0 (.slice none 0 0) (.slice none 0 0),obE b o vk' (.slice (some p) o.kids.length cap),.mem N2]:=ho.tail;refine do_eq (run_ia Tryz.underlying23 szOb (by omega) (by omega)) |>.mpr ?_;rw[Int.toNat_natCast,Nat.zero_add];refine o_storeU 0 ho rfl (u:=obV o.kids[i] yk yc) (new:=obC o.kids[i] yk yc) rfl szOb (obC_one _ hya.keys.one hya.kids.one) (by show i*6+6≤_;omega) fun w12 ho=>?_;rw[wrap64_id (by omega) (by omega)];refine nextX ⟨i+1,N2,cs'++obC o.kids[i] yk yc,zs'.drop 6,rfl,by omega,hle.trans hle2,?_,?_,?_⟩ (by simp[n0,RowKit.intOf];omega)
   ·rw[List.take_succ_eq_append_getElem hi'];exact ovs_app (hcs'.le hle2) (ovs_1 hy)
   ·rw[List.length_append,hl'];show i*6+6=_;omega
   ·have e:(cs'++zs').take (i*6)++obC o.kids[i] yk yc++(cs'++zs').drop (i*6+(obC o.kids[i] yk yc).length)=cs'++obC o.kids[i] yk yc++zs'.drop 6:=by
     rw[List.take_left' hl',List.drop_append,List.drop_eq_nil_of_le (by rw[hl'];omega),List.nil_append,hl']
     congr 2
     show i*6+6 - i*6=6;omega
    rw[e] at ho;exact ho
  ·have hi':i=o.kids.length:=by omega
   subst hi';simp only[hlt,decide_false,i_f];have hz:zs'=[]:=List.eq_nil_of_length_eq_zero (by omega);subst hz;rw[List.append_nil,List.take_of_length_le (Nat.le_refl _)] at *;rw[fa_o5];refine o_store 2 ho rfl (by kernel_rfl) rfl (show 0+5 < 6 by omega) fun w9 ho=>?_;obtain⟨N2,hle2,hrow,ho⟩:=OwnS.freezeU (L:=[obE b4 ob0 (.slice none 0 0) (.slice none 0 0),obE b o vk' (.slice (some ⟨g,0,none⟩) o.kids.length o.kids.length),.mem N']) ho 2 rfl;exact fin _ N2 _ _ ho (hle.trans hle2) rfl hrow (hcs'.le hle2)
theorem clone_ret (o:Ob)(v:Value)(M:Mem)(w:World)(hw:o.wt≤100000000000)(hM:M.has w)(hv:OV M.A M.w v o):RetM prog 81 #[v] M w (fun v' N=>OV N.A N.w v' o):=by
 obtain⟨vk,vc,cs,rfl,ha⟩:=hv.open;refine retM_of hM fun K hK=>S_value_Clone_ok ?_;unfold S_value_Clone;refine o_obb o ha.keys.one ha.kids.one (OwnS.memS hM) fun b w1 ho=>?_;refine o_oba ho fun b4 w2 ho=>?_;rw[ob_v ho 1 rfl];refine c_mem ho 2 rfl (changed_ret o.wt o _ M w2 (Nat.le_refl _) hw (ho.hasM 2 rfl) hv) fun y N w3 hle hy ho=>?_;obtain⟨yk,yc,ycs,rfl,hya⟩:=hy.open;refine ob_put 0 hya.keys.one hya.kids.one ho rfl fun w4 ho=>?_;exact ret_v1 (rv_cell (ho.agg 0 rfl aggOb)) (hK _ _ N _ 2 ho rfl hle hy)
end
section
open Eng
def S_write_single_0 (t3:Value)(w:World)(K:Ending→World→Prop):Prop:=
 DoX prog (mBuildS 22 1 #[(0,t3)]) w (pk K) fun t68 w=>
 K (.returned t68) w
def S_write_single (t0:Value)(w:World)(K:Ending→World→Prop):Prop:=
 DoX prog (mBox 25 t0) w (pk K) fun t1 w=>
 JoinX (fun J1=>
 DoX prog (mFA 25 t1 0) w (pk K) fun t8 w=>
 DoX prog (mLoad 3 t8) w (pk K) fun t9 w=>
 DoX prog (mEq .eql 3 (.tmp 9) (.const (.int .i64 0)) t9 (.int .i64 0)) w (pk K) fun t11 w=>
 IfX t11 (J1 [(.string ⟨#[110,117,108,108]⟩)] w) (DoX prog (mEq .eql 3 (.tmp 9) (.const (.int .i64 1)) t9 (.int .i64 1)) w (pk K) fun t13 w=>
 IfX t13 (DoX prog (mBuild 161 #[(0,(.string ⟨#[102,97,108,115,101]⟩)),(1,(.string ⟨#[116,114,117,101]⟩))]) w (pk K) fun t14 w=>
 DoX prog (mFA 25 t1 1) w (pk K) fun t15 w=>
 DoX prog (mLoad 2 t15) w (pk K) fun t16 w=>
 DoX prog (mIx 161 t14 t16) w (pk K) fun t17 w=>
 J1 [t17] w) (DoX prog (mEq .eql 3 (.tmp 9) (.const (.int .i64 2)) t9 (.int .i64 2)) w (pk K) fun t19 w=>
 IfX t19 (DoX prog (mFA 25 t1 1) w (pk K) fun t21 w=>
 DoX prog (mLoad 2 t21) w (pk K) fun t22 w=>
 CallX prog 46 #[t22] w (pk K) fun t23 w=>
 DoX prog (mExt t23 0) w (pk K) fun t24 w=>
 DoX prog (mExt t23 1) w (pk K) fun t25 w=>
 J1 [t24] w) (DoX prog (mEq .eql 3 (.tmp 9) (.const (.int .i64 3)) t9 (.int .i64 3)) w (pk K) fun t27 w=>
 IfX t27 (DoX prog (mFA 25 t1 1) w (pk K) fun t29 w=>
 DoX prog (mLoad 2 t29) w (pk K) fun t30 w=>
 CallX prog 191 #[t30] w (pk K) fun t31 w=>
 DoX prog (mExt t31 0) w (pk K) fun t32 w=>
 DoX prog (mExt t31 1) w (pk K) fun t33 w=>
 J1 [t32] w) (DoX prog (mEq .eql 3 (.tmp 9) (.const (.int .i64 4)) t9 (.int .i64 4)) w (pk K) fun t35 w=>
 IfX t35 (DoX prog (mFA 25 t1 3) w (pk K) fun t37 w=>
 DoX prog (mLoad 9 t37) w (pk K) fun t38 w=>
 CallX prog 192 #[t38] w (pk K) fun t39 w=>
 DoX prog (mExt t39 0) w (pk K) fun t40 w=>
 DoX prog (mExt t39 1) w (pk K) fun t41 w=>
 J1 [t40] w) (DoX prog (mEq .eql 3 (.tmp 9) (.const (.int .i64 5)) t9 (.int .i64 5)) w (pk K) fun t43 w=>
 IfX t43 (DoX prog (mFA 25 t1 3) w (pk K) fun t45 w=>
 DoX prog (mLoad 9 t45) w (pk K) fun t46 w=>
 CallX prog 140 #[t46] w (pk K) fun t47 w=>
 DoX prog (mExt t47 0) w (pk K) fun t48 w=>
 DoX prog (mExt t47 1) w (pk K) fun t49 w=>
 J1 [t48] w) (DoX prog (mEq .eql 3 (.tmp 9) (.const (.int .i64 8)) t9 (.int .i64 8)) w (pk K) fun t51 w=>
 IfX t51 (DoX prog (mFA 25 t1 1) w (pk K) fun t53 w=>
 DoX prog (mLoad 2 t53) w (pk K) fun t54 w=>
 CallX prog 46 #[t54] w (pk K) fun t55 w=>
 DoX prog (mExt t55 0) w (pk K) fun t56 w=>
 DoX prog (mExt t55 1) w (pk K) fun t57 w=>
 DoX prog (mFA 25 t1 2) w (pk K) fun t59 w=>
 DoX prog (mLoad 3 t59) w (pk K) fun t60 w=>
 CallX prog 46 #[t60] w (pk K) fun t61 w=>
 DoX prog (mExt t61 0) w (pk K) fun t62 w=>
 DoX prog (mExt t61 1) w (pk K) fun t63 w=>
 DoX prog (mBuildS 22 3 #[(0,t56),(1,t62),(2,(.string ⟨#[82]⟩))]) w (pk K) fun t66 w=>
 K (.returned t66) w) (J1 [(.string ⟨#[]⟩)] w)))))))) (fun vs1 w=>∀_:Sg,S_write_single_0 (vs1.getD 0 undef) w K)
theorem S_write_single_eq (t0:Value)(w:World)(K:Ending→World→Prop):wpX prog 69 [(19,[3])] [] none (bodyOf Tryz.f139) (topQ prog [.tmp 2] K) (startX [t0]) [] w=S_write_single t0 w K:=by kernel_rfl
theorem S_write_single_ok {t0:Value}{w:World}{K:Ending→World→Prop}(h:S_write_single t0 w K):Calls prog 139 #[t0] w K:=
 calls_of_wpX Tryz.func139 rfl rfl rfl rfl (Eq.mpr (S_write_single_eq t0 w K) h)
def S_write_parts_1_1_3 (t2 t9 t40:Value)(w:World)(N3:List Value→World→Prop)(K:Ending→World→Prop):Prop:=
 DoX prog (mLoad 111 t2) w (pk K) fun t61 w=>
 DoX prog (mLoad 25 t9) w (pk K) fun t62 w=>
 DoX prog (mCallV t61 #[t62]) w (pk K) fun t63 w=>
 DoX prog (mUn .not t63) w (pk K) fun t64 w=>
 IfX t64 (K (.returned (.bool false)) w) (DoX prog (mBin .add 3 t40 (.int .i64 1)) w (pk K) fun t65 w=>
 N3 [t65] w)
def S_write_parts_1_1_2 (t1 t2 t3 t5 t38 t39 t40:Value)(w:World)(N3:List Value→World→Prop)(K:Ending→World→Prop):Prop:=
 DoX prog (mBin .lss 3 t40 t39) w (pk K) fun t41 w=>
 IfX t41 (DoX prog (mIA 23 t38 t40) w (pk K) fun t43 w=>
 DoX prog (mLoad 25 t43) w (pk K) fun t44 w=>
 DoX prog (mAlloc 25) w (pk K) fun t9 w=>
 DoX prog (mStore 25 t9 t44) w (pk K) fun _ w=>
 JoinX (fun J4=>
 DoX prog (mFA 25 t3 0) w (pk K) fun t45 w=>
 DoX prog (mLoad 3 t45) w (pk K) fun t46 w=>
 DoX prog (mEq .eql 3 (.tmp 46) (.const (.int .i64 7)) t46 (.int .i64 7)) w (pk K) fun t47 w=>
 IfX t47 (DoX prog (mFA 25 t3 4) w (pk K) fun t49 w=>
 DoX prog (mLoad 22 t49) w (pk K) fun t50 w=>
 DoX prog (mIA 22 t50 t40) w (pk K) fun t52 w=>
 DoX prog (mLoad 9 t52) w (pk K) fun t53 w=>
 CallX prog 140 #[t53] w (pk K) fun t54 w=>
 DoX prog (mExt t54 0) w (pk K) fun t55 w=>
 DoX prog (mExt t54 1) w (pk K) fun t56 w=>
 DoX prog (mLoad 160 t1) w (pk K) fun t57 w=>
 DoX prog (mCallV t57 #[t55]) w (pk K) fun t59 w=>
 DoX prog (mUn .not t59) w (pk K) fun t60 w=>
 IfX t60 (K (.returned (.bool false)) w) (J4 [] w)) (J4 [] w)) (fun vs4 w=>∀_:Sg,S_write_parts_1_1_3 t2 t9 t40 w N3 K)) (DoX prog (mLoad 160 t1) w (pk K) fun t66 w=>
 DoX prog (mIA 161 t5 (.int .i64 1)) w (pk K) fun t67 w=>
 DoX prog (mLoad 9 t67) w (pk K) fun t68 w=>
 DoX prog (mCallV t66 #[t68]) w (pk K) fun t69 w=>
 K (.returned t69) w)
def S_write_parts_1_1_1 (t1 t2 t3 t5:Value)(w:World)(K:Ending→World→Prop):Prop:=
 DoX prog (mLoad 160 t1) w (pk K) fun t32 w=>
 DoX prog (mIA 161 t5 (.int .i64 0)) w (pk K) fun t33 w=>
 DoX prog (mLoad 9 t33) w (pk K) fun t34 w=>
 DoX prog (mCallV t32 #[t34]) w (pk K) fun t35 w=>
 DoX prog (mUn .not t35) w (pk K) fun t36 w=>
 IfX t36 (K (.returned (.bool false)) w) (DoX prog (mFA 25 t3 5) w (pk K) fun t37 w=>
 DoX prog (mLoad 23 t37) w (pk K) fun t38 w=>
 DoX prog (mB .len #[23] 3 #[false] #[t38]) w (pk K) fun t39 w=>
 LoopX [(.int .i64 0)] w (fun vs3 w N3=>∀_:Sg,S_write_parts_1_1_2 t1 t2 t3 t5 t38 t39 (vs3.getD 0 undef) w N3 K))
def S_write_parts_1_1_0 (t1 t16 t17 t18:Value)(w:World)(N2:List Value→World→Prop)(K:Ending→World→Prop):Prop:=
 DoX prog (mBin .lss 3 t18 t17) w (pk K) fun t19 w=>
 IfX t19 (DoX prog (mIA 22 t16 t18) w (pk K) fun t20 w=>
 DoX prog (mLoad 9 t20) w (pk K) fun t21 w=>
 DoX prog (mLoad 160 t1) w (pk K) fun t22 w=>
 DoX prog (mCallV t22 #[t21]) w (pk K) fun t24 w=>
 DoX prog (mUn .not t24) w (pk K) fun t25 w=>
 IfX t25 (K (.returned (.bool false)) w) (DoX prog (mBin .add 3 t18 (.int .i64 1)) w (pk K) fun t26 w=>
 N2 [t26] w)) (K (.returned (.bool true)) w)
def S_write_parts_1_1 (t0 t1 t2:Value)(w:World)(K:Ending→World→Prop):Prop:=
 DoX prog (mBox 25 t0) w (pk K) fun t3 w=>
 DoX prog (mBuild 161 #[(0,(.string ⟨#[91]⟩)),(1,(.string ⟨#[93]⟩))]) w (pk K) fun t12 w=>
 DoX prog (mAlloc 161) w (pk K) fun t5 w=>
 DoX prog (mStore 161 t5 t12) w (pk K) fun _ w=>
 JoinX (fun J1=>
 DoX prog (mFA 25 t3 0) w (pk K) fun t13 w=>
 DoX prog (mLoad 3 t13) w (pk K) fun t14 w=>
 DoX prog (mEq .eql 3 (.tmp 14) (.const (.int .i64 6)) t14 (.int .i64 6)) w (pk K) fun t28 w=>
 IfX t28 (J1 [] w) (DoX prog (mEq .eql 3 (.tmp 14) (.const (.int .i64 7)) t14 (.int .i64 7)) w (pk K) fun t30 w=>
 IfX t30 (DoX prog (mBuild 161 #[(0,(.string ⟨#[60,60]⟩)),(1,(.string ⟨#[62,62]⟩))]) w (pk K) fun t31 w=>
 DoX prog (mStore 161 t5 t31) w (pk K) fun _ w=>
 J1 [] w) (DoX prog (mLoad 25 t3) w (pk K) fun t15 w=>
 CallX prog 139 #[t15] w (pk K) fun t16 w=>
 DoX prog (mB .len #[22] 3 #[false] #[t16]) w (pk K) fun t17 w=>
 LoopX [(.int .i64 0)] w (fun vs2 w N2=>∀_:Sg,S_write_parts_1_1_0 t1 t16 t17 (vs2.getD 0 undef) w N2 K)))) (fun vs1 w=>∀_:Sg,S_write_parts_1_1_1 t1 t2 t3 t5 w K)
theorem S_write_parts_1_1_eq (t0 t1 t2:Value)(w:World)(K:Ending→World→Prop):wpX prog 70 [(13,[]),(22,[])] [(4,[18]),(16,[40])] none (bodyOf Tryz.f138) (topQ prog [.tmp 4] K) (startX [t0,t1,t2]) [] w=S_write_parts_1_1 t0 t1 t2 w K:=by kernel_rfl
theorem S_write_parts_1_1_ok {t0 t1 t2:Value}{w:World}{K:Ending→World→Prop}(h:S_write_parts_1_1 t0 t1 t2 w K):Calls prog 138 #[t0,t1,t2] w K:=
 calls_of_wpX Tryz.func138 rfl rfl rfl rfl (Eq.mpr (S_write_parts_1_1_eq t0 t1 t2 w K) h)
def S_write_parts_1 (t0 t1:Value)(w:World)(K:Ending→World→Prop):Prop:=
 DoX prog (mBox 160 t0) w (pk K) fun t2 w=>
 DoX prog (mAlloc 111) w (pk K) fun t3 w=>
 DoX prog (mFunc (.func 138) #[] #[t2,t3]) w (pk K) fun t4 w=>
 DoX prog (mStore 111 t3 t4) w (pk K) fun _ w=>
 DoX prog (mLoad 111 t3) w (pk K) fun t5 w=>
 DoX prog (mLoad 25 t1) w (pk K) fun t6 w=>
 DoX prog (mCallV t5 #[t6]) w (pk K) fun t7 w=>
 K (.returned (.tuple #[])) w
theorem S_write_parts_1_eq (t0 t1:Value)(w:World)(K:Ending→World→Prop):wpX prog 8 [] [] none (bodyOf Tryz.f137) (topQ prog [] K) (startX [t0,t1]) [] w=S_write_parts_1 t0 t1 w K:=by kernel_rfl
theorem S_write_parts_1_ok {t0 t1:Value}{w:World}{K:Ending→World→Prop}(h:S_write_parts_1 t0 t1 w K):Calls prog 137 #[t0,t1] w K:=
 calls_of_wpX Tryz.func137 rfl rfl rfl rfl (Eq.mpr (S_write_parts_1_eq t0 t1 w K) h)
def S_write_parts (t0:Value)(w:World)(K:Ending→World→Prop):Prop:=
 DoX prog (mBox 25 t0) w (pk K) fun t1 w=>
 DoX prog (mFunc (.func 137) #[] #[t1]) w (pk K) fun t3 w=>
 K (.returned t3) w
theorem S_write_parts_eq (t0:Value)(w:World)(K:Ending→World→Prop):wpX prog 4 [] [] none (bodyOf Tryz.f90) (topQ prog [.tmp 2] K) (startX [t0]) [] w=S_write_parts t0 w K:=by kernel_rfl
theorem S_write_parts_ok {t0:Value}{w:World}{K:Ending→World→Prop}(h:S_write_parts t0 w K):Calls prog 90 #[t0] w K:=
 calls_of_wpX Tryz.func90 rfl rfl rfl rfl (Eq.mpr (S_write_parts_eq t0 w K) h)
def S_slices_AppendSeq_string_string_p0 (x0:Nat)(K:Ending→World→Prop):=pdM prog [.val (.slice none 0 0)] K [(mkD x0)]
def S_slices_AppendSeq_string_string (t0 t1:Value)(w:World)(K:Ending→World→Prop):Prop:=
 DoX prog (mBox 22 t0) w (pk K) fun t2 w=>
 RangeX prog none 1 t1 w (fun l1 as1 w R1=>
 BegX prog l1 w (fun w=>
 DoX prog (mLoad 22 t2) w pkR fun t8 w=>
 DoX prog (mBuildS 22 1 #[(0,(as1.getD 0 undef))]) w pkR fun t10 w=>
 DoX prog (mB .append #[22,22] 22 #[false,false] #[t8,t10]) w pkR fun t11 w=>
 DoX prog (mStore 22 t2 t11) w pkR fun _ w=>
 EndX prog l1 none w R1))
 [(none,fun r1 w=>
 DoX prog (mLoad 22 t2) w (S_slices_AppendSeq_string_string_p0 r1 K) fun t12 w=>
 LeaveM prog [.val t12] K [(mkD r1)] .returning w)]
theorem S_slices_AppendSeq_string_string_eq (t0 t1:Value)(w:World)(K:Ending→World→Prop):wpX prog 13 [] [] none (bodyOf Tryz.f136) (topM prog [.tmp 4] K) (startX [t0,t1]) [] w=S_slices_AppendSeq_string_string t0 t1 w K:=by kernel_rfl
theorem S_slices_AppendSeq_string_string_ok {t0 t1:Value}{w:World}{K:Ending→World→Prop}(h:S_slices_AppendSeq_string_string t0 t1 w K):Calls prog 136 #[t0,t1] w K:=
 calls_of_wpM Tryz.func136 rfl rfl rfl rfl (Eq.mpr (S_slices_AppendSeq_string_string_eq t0 t1 w K) h)
def S_slices_Collect_string (t0:Value)(w:World)(K:Ending→World→Prop):Prop:=
 CallX prog 136 #[(.slice none 0 0),t0] w (pk K) fun t4 w=>
 K (.returned t4) w
theorem S_slices_Collect_string_eq (t0:Value)(w:World)(K:Ending→World→Prop):wpX prog 5 [] [] none (bodyOf Tryz.f89) (topQ prog [.tmp 2] K) (startX [t0]) [] w=S_slices_Collect_string t0 w K:=by kernel_rfl
theorem S_slices_Collect_string_ok {t0:Value}{w:World}{K:Ending→World→Prop}(h:S_slices_Collect_string t0 w K):Calls prog 89 #[t0] w K:=
 calls_of_wpX Tryz.func89 rfl rfl rfl rfl (Eq.mpr (S_slices_Collect_string_eq t0 w K) h)
def S_write_Text (t0:Value)(w:World)(K:Ending→World→Prop):Prop:=
 DoX prog (mBox 25 t0) w (pk K) fun t1 w=>
 DoX prog (mLoad 25 t1) w (pk K) fun t5 w=>
 CallX prog 57 #[t5] w (pk K) fun t6 w=>
 DoX prog (mEq .neq 30 (.tmp 7) (.const (.int .i64 0)) t6 (.int .i64 0)) w (pk K) fun t8 w=>
 IfX t8 (K (.returned (.tuple #[(.string ⟨#[]⟩),t6])) w) (DoX prog (mFA 25 t1 0) w (pk K) fun t10 w=>
 DoX prog (mLoad 3 t10) w (pk K) fun t11 w=>
 DoX prog (mEq .eql 3 (.tmp 11) (.const (.int .i64 9)) t11 (.int .i64 9)) w (pk K) fun t12 w=>
 IfX t12 (K (.returned (.tuple #[(.string ⟨#[]⟩),(.int .i64 10)])) w) (DoX prog (mLoad 25 t1) w (pk K) fun t13 w=>
 CallX prog 90 #[t13] w (pk K) fun t14 w=>
 CallX prog 89 #[t14] w (pk K) fun t15 w=>
 CallX prog 44 #[t15] w (pk K) fun t16 w=>
 K (.returned (.tuple #[t16,(.int .i64 0)])) w))
theorem S_write_Text_eq (t0:Value)(w:World)(K:Ending→World→Prop):wpX prog 17 [] [] none (bodyOf Tryz.f50) (topQ prog [.tmp 2,.tmp 3] K) (startX [t0]) [] w=S_write_Text t0 w K:=by kernel_rfl
theorem S_write_Text_ok {t0:Value}{w:World}{K:Ending→World→Prop}(h:S_write_Text t0 w K):Calls prog 50 #[t0] w K:=
 calls_of_wpX Tryz.func50 rfl rfl rfl rfl (Eq.mpr (S_write_Text_eq t0 w K) h)
end
section
open Eng Go.RowKit
section
variable {w:World}{PK:PKT}{K:VWP}{S:Nat→Prop}{w0:World}
theorem perm3 {A B C:List Ent}:(A++(B++C)).Perm (B++(A++C)):=by
 rw[←List.append_assoc,←List.append_assoc];exact List.Perm.append_right C List.perm_append_comm
theorem own_sink {A B M X:List Ent}(h:OwnS S w0 w (A++(B++(M++X)))):OwnS S w0 w (B++(M++(A++X))):=h.perm (perm3.trans (perm3.append_left _))
theorem own_float {A B M X:List Ent}(h:OwnS S w0 w (B++(M++(A++X)))):OwnS S w0 w (A++(B++(M++X))):=h.perm (perm3.trans (perm3.append_left _)).symm
theorem ia2_0 {b:Nat}:DoX prog (mIA 161 (.pointer (some ⟨b,0,none⟩)) (.int .i64 0)) w PK K=K (.pointer (some ⟨b,0,none⟩)) w:=do_eq (by kernel_rfl)
theorem ia2_1 {b:Nat}:DoX prog (mIA 161 (.pointer (some ⟨b,0,none⟩)) (.int .i64 1)) w PK K=K (.pointer (some ⟨b,1,none⟩)) w:=do_eq (by kernel_rfl)
theorem ix2_0 {x y:Value}:DoX prog (mIx 161 (.agg #[x,y]) (.int .i64 0)) w PK K=K x w:=do_eq (by kernel_rfl)
theorem ix2_1 {x y:Value}:DoX prog (mIx 161 (.agg #[x,y]) (.int .i64 1)) w PK K=K y w:=do_eq (by kernel_rfl)
end
theorem single_ret (o:Ob)(v:Value)(d:Nat)(w:World)(ht:Tb w)(hov:OV (InW w) w v o)(hc:Vl.check d o=0)(k6:o.k≠6)(k7:o.k≠7)(k9:o.k≠9) :
  Ret prog 139 #[v] w (fun v' w'=>Own w w' [StrRow v' (Wr.parts o)]):=by
 obtain⟨vk,vc,cs,rfl,ha⟩:=hov.open;obtain⟨_,huse,_,hfit,hsl,_,_⟩:=why_fields (Wr.check_why hc);refine ret_of fun K hK=>S_write_single_ok ?_;unfold S_write_single;refine o_obb o ha.keys.one ha.kids.one (Own.start w) fun b w1 ho=>?_;rw[Wr.parts_eq,if_neg k6,if_neg k7] at hK;refine join fun J hJ=>?_;have fin:∀{t:List UInt8} {W:World} {L:List Ent},Own w W L→o.k≠8→t=Wr.leaf o.k o.n o.s→J [.string ⟨t.toArray⟩] W:=by
  rintro t W L ho h8 rfl;refine hJ _ _ fun _=>?_;simp only[S_write_single_0,gd];rw[if_neg h8] at hK;refine o_new (fun b=>.slice (some ⟨b,0,none⟩) 1 1) [.string ⟨(Wr.leaf o.k o.n o.s).toArray⟩] 9 (fun _=>by kernel_rfl) ho fun nb w4 h4=>?_;exact hK _ _ ((h4.toRow 1 1 1 rfl (by omega) (by omega)).sub (.cons_cons _ (List.nil_sublist _)))
 rw[fa_o0,ob_k ho 0 rfl];simp only[rs,fa_o1,fa_o2,fa_o3,ob_n ho 0 rfl,ob_s ho 0 rfl];by_cases k0:o.k=0
 ·simp only[k0,decide_true,i_t];exact fin (t:=Wr.nul) ho (by omega) (by simp[Wr.leaf,k0])
 by_cases k1:o.k=1
 ·simp only[k1,Int.reduceEq,decide_true,decide_false,i_t,i_f];have hf:0≤o.n∧o.n≤1:=by simpa[Vl.fits,k1] using hfit
  have hb:∀{PK:PKT} {K:VWP},DoX prog (mBuild 161 #[(0,(.string ⟨#[102,97,108,115,101]⟩)),(1,(.string ⟨#[116,114,117,101]⟩))]) w1 PK K=K (.agg #[.string ⟨Wr.fal.toArray⟩,.string ⟨Wr.tru.toArray⟩]) w1:=do_eq (by kernel_rfl);rw[hb,ob_n ho 0 rfl];rcases (show o.n=0∨o.n=1 by omega) with hn|hn
  ·skip
   rw[hn,ix2_0];exact fin ho (by omega) (by simp[Wr.leaf,k1,hn])
  ·rw[hn,ix2_1];exact fin ho (by omega) (by simp[Wr.leaf,k1,hn])
 by_cases k2:o.k=2
 ·simp only[k2,Int.reduceEq,decide_true,decide_false,i_t,i_f];refine c_told (pint_ret o.n w1 (ht.own ho)) rfl ho fun w2 ho=>?_;simp only[ex];exact fin ho (by omega) (by simp[Wr.leaf,k2,Wr.num])
 by_cases k3:o.k=3
 ·simp only[k3,Int.reduceEq,decide_true,decide_false,i_t,i_f];refine c_told (preal_ret o.n w1) rfl ho fun w2 ho=>?_;simp only[ex];exact fin ho (by omega) (by simp[Wr.leaf,k3])
 by_cases k4:o.k=4
 ·simp only[k4,Int.reduceEq,decide_true,decide_false,i_t,i_f];have hl:Vl.long o.k=32767:=by rw[k4];rfl
  refine c_told (pstr_ret o.s w1 (by omega)) rfl ho fun w2 ho=>?_;simp only[ex];exact fin ho (by omega) (by simp[Wr.leaf,k4])
 by_cases k5:o.k=5
 ·simp only[k5,Int.reduceEq,decide_true,decide_false,i_t,i_f];refine c_told (pname_ret o.s w1) rfl ho fun w2 ho=>?_;simp only[ex];exact fin ho (by omega) (by simp[Wr.leaf,k5])
 have k8:o.k=8:=by
  unfold Vl.usesOk Vl.used at huse;simp only[k0,k1,k2,k3,k4,k5,k6,k7,k9,or_self,if_false] at huse;by_cases h:o.k=8
  ·exact h
  ·simp[h] at huse
 rw[if_pos k8] at hK;simp only[k8,Int.reduceEq,decide_true,decide_false,i_t,i_f];refine c_told (pint_ret o.n w1 (ht.own ho)) rfl ho fun w2 ho=>?_;simp only[ex,ob_g ho 0 rfl];refine c_told (pint_ret o.g w2 (ht.own ho)) rfl ho fun w3 ho=>?_;simp only[ex];refine o_new (fun b=>.slice (some ⟨b,0,none⟩) 3 3) [.string ⟨(Wr.num o.n).toArray⟩,.string ⟨(Wr.num o.g).toArray⟩,.string ⟨#[82]⟩] 9 (fun _=>by kernel_rfl) ho fun nb w4 h4=>?_;exact hK _ _ ((h4.toRow 1 3 3 rfl (by omega) (by omega)).sub (.cons_cons _ (List.nil_sublist _)))
end
section
open Eng Go.RowKit
def yldE (b lb:Nat):Ent:=.cells b [.func (.yield lb) #[] #[]] 160
def telV (b1 b2:Nat):Value:=.func (.func 138) #[] #[.pointer (some ⟨b1,0,none⟩),.pointer (some ⟨b2,0,none⟩)]
def telE (b1 b2:Nat):Ent:=.cells b2 [telV b1 b2] 111
def endE (b:Nat)(x y:List UInt8):Ent:=.cells b [.string ⟨x.toArray⟩,.string ⟨y.toArray⟩] 161
theorem nFs:notAgg prog 160=true:=by kernel_rfl
theorem nFo:notAgg prog 111=true:=by kernel_rfl
theorem sz2:(Tryz.prog.info? 161).map (·.size)=some 2:=by kernel_rfl
theorem tell_plain:plainB prog 138=true:=by kernel_rfl
def midTo (o:Ob)(i:Nat):List (List UInt8):=if o.k=7 then Wr.partsD (o.keys.take i) (o.kids.take i) else Wr.partsL (o.kids.take i)
theorem strs_get {ps:List (List UInt8)}{j:Nat}{x:Value}(h:(strsV ps)[j]?=some x):∃y,ps[j]?=some y∧x=.string ⟨y.toArray⟩:=by
 unfold strsV at h;rw[List.getElem?_map] at h;cases hy:ps[j]? with
|none=>rw[hy] at h;cases h
|some y=>rw[hy] at h;exact⟨y,rfl,by simpa[strV] using h.symm⟩
theorem mid_split (o:Ob)(i:Nat):∃t,midTo o o.kids.length=midTo o i++t:=by
 unfold midTo;split
 ·rw[Wr.partsD_min _ _ _ (.inr (Nat.le_refl _))];exact⟨_,Wr.partsD_split o.keys o.kids i⟩
 ·rw[List.take_length];exact⟨Wr.partsL (o.kids.drop i),by rw[←Wr.partsL_app,List.take_append_drop]⟩
theorem tell_any (A:Nat→Prop)(wb:World)(S:Nat→Prop)(w0:World)(L0:Loop)(lb df b1 b2:Nat)(R:Nat→List Ent→Prop)(vs:List Value)(Kf:World→Prop)
  (hI:∀(L:List Ent) (W:World),OwnS S w0 W L→Tb W∧Kept A wb W) (hA:∀(L:List Ent) (W:World),OwnS S w0 W L→∀b,A b→b < W.heap.size)
  (hy:∀(k:Nat) (v:Value) (M X:List Ent) (W:World),vs[k]?=some v→R k M→OwnS S w0 W (loopE L0 lb df++(M++X)) →
   Yld prog lb [v] W (fun r W'=>(r=.bool true∧∃M',R (k+1) M'∧OwnS S w0 W' (loopE L0 lb df++(M'++X)))∨(r=.bool false∧Kf W'))) (n:Nat) :
  ∀(o:Ob) (v:Value) (d:Nat) (M X:List Ent) (k:Nat) (w1:World) (K:Ending→World→Prop),o.wt≤n→OV A wb v o→o.wt≤100000000→Vl.check d o=0→1≤d→o.k≠9 →
   yldE b1 lb∈X→telE b1 b2∈X→OwnS S w0 w1 (loopE L0 lb df++(M++X))→R k M→(∀(j:Nat) (x:List UInt8),(Wr.parts o)[j]?=some x→vs[k+j]?=some (.string ⟨x.toArray⟩)) →
   (∀(M':List Ent) (W:World),R (k+(Wr.parts o).length) M'→OwnS S w0 W (loopE L0 lb df++(M'++X))→K (.returned (.bool true)) W)→(∀W,Kf W→K (.returned (.bool false)) W) →
   Calls prog 138 #[v,.pointer (some ⟨b1,0,none⟩),.pointer (some ⟨b2,0,none⟩)] w1 K:=by
 induction n with
|zero=>intro o v d M X k w1 K h;have:=o.wt_pos;omega
|succ n ih=>
 intro o v d M X k w1 K hn hov hb hc hd k9 hX1 hX2 ho hR hseg hK hKf;obtain⟨vk,vc,cs,rfl,ha⟩:=hov.open;obtain⟨hd24,_,_,_,hsl,hkl,hform⟩:=why_fields (Wr.check_why hc);have hkc:=Wr.check_kids hc
 -- the cells of the closure
 have c1:∀{A' M':List Ent} {W:World},OwnS S w0 W (A'++(loopE L0 lb df++(M'++X)))→∀{PK:PKT} {K:VWP},DoX prog (mLoad 160 (.pointer (some ⟨b1,0,none⟩))) W PK K=K (.func (.yield lb) #[] #[]) W:=fun h=>l_cell nFs (cells_cell (h.mem (e:=yldE b1 lb) (by simp[hX1])) (i:=0) rfl);have c2:∀{A' M':List Ent} {W:World},OwnS S w0 W (A'++(loopE L0 lb df++(M'++X)))→∀{PK:PKT} {K:VWP},DoX prog (mLoad 111 (.pointer (some ⟨b2,0,none⟩))) W PK K=K (telV b1 b2) W:=fun h=>l_cell nFo (cells_cell (h.mem (e:=telE b1 b2) (by simp[hX2])) (i:=0) rfl)
 -- one piece is handed out
 have give:∀(A' M':List Ent) (j:Nat) (x:List UInt8) (W:World) (PK:PKT) (K':VWP),(Wr.parts o)[j]?=some x→R (k+j) M'→OwnS S w0 W (A'++(loopE L0 lb df++(M'++X))) →
   (∀M2 W2,R (k+j+1) M2→OwnS S w0 W2 (A'++(loopE L0 lb df++(M2++X)))→K' (.bool true) W2)→(∀W2,Kf W2→K' (.bool false) W2) →
   DoX prog (mCallV (.func (.yield lb) #[] #[]) #[.string ⟨x.toArray⟩]) W PK K':=by
  intro A' M' j x W PK K' hx hR ho h1 h2;refine c_yld (hy (k+j) _ M' (A'++X) W (hseg j x hx) hR (own_sink ho)) ?_;rintro r W2 (⟨rfl,M2,hR2,ho2⟩|⟨rfl,hk⟩)
  ·exact h1 M2 W2 hR2 (own_float ho2)
  ·exact h2 W2 hk
 refine S_write_parts_1_1_ok ?_;unfold S_write_parts_1_1;refine o_obb o ha.keys.one ha.kids.one ho fun b3 w2 ho=>?_;have mb:∀{x y:List UInt8} {W:World} {PK:PKT} {K:VWP},DoX prog (mBuild 161 #[(0,.string ⟨x.toArray⟩),(1,.string ⟨y.toArray⟩)]) W PK K=K (.agg #[.string ⟨x.toArray⟩,.string ⟨y.toArray⟩]) W:=do_eq (by kernel_rfl);rw[mb (x:=[91]) (y:=[93])];refine o_new (fun b=>.pointer (some ⟨b,0,none⟩)) [.string ⟨#[]⟩,.string ⟨#[]⟩] 161 (fun _=>by kernel_rfl) ho fun b5 w3 ho=>?_;refine o_put 0 ho rfl (new:=[.string ⟨([91]:List UInt8).toArray⟩,.string ⟨([93]:List UInt8).toArray⟩]) sz2 (by simp;exact⟨rfl,rfl⟩) rfl fun w4 ho=>?_;have ho:OwnS S w0 w4 ([endE b5 [91] [93],obE b3 o vk vc]++(loopE L0 lb df++(M++X))):=ho;refine join fun J hJ=>?_
 -- behind the choice of the brackets
 have main:∀(x y:List UInt8) (W:World),OwnS S w0 W ([endE b5 x y,obE b3 o vk vc]++(loopE L0 lb df++(M++X)))→(o.k=6∨o.k=7)→Wr.parts o=[x]++(midTo o o.kids.length++[y]) →
   S_write_parts_1_1_1 (.pointer (some ⟨b1,0,none⟩)) (.pointer (some ⟨b2,0,none⟩)) (.pointer (some ⟨b3,0,none⟩)) (.pointer (some ⟨b5,0,none⟩)) W K:=by
  intro x y W ho h67 hp;unfold S_write_parts_1_1_1;have le0:∀{A':List Ent} {W:World},OwnS S w0 W (endE b5 x y::A')→∀{PK:PKT} {K:VWP},DoX prog (mLoad 9 (.pointer (some ⟨b5,0,none⟩))) W PK K=K (.string ⟨x.toArray⟩) W:=fun h=>l_cell nStr5 (h.cell 0 rfl 0 rfl);have le1:∀{A':List Ent} {W:World},OwnS S w0 W (endE b5 x y::A')→∀{PK:PKT} {K:VWP},DoX prog (mLoad 9 (.pointer (some ⟨b5,1,none⟩))) W PK K=K (.string ⟨y.toArray⟩) W:=fun h=>l_cell nStr5 (h.cell 0 rfl 1 rfl);rw[c1 ho,ia2_0,le0 ho];refine give [endE b5 x y,obE b3 o vk vc] M 0 x W _ _ (by rw[hp];rfl) hR ho ?_ (fun W2 hk=>by rw[u_not,Bool.not_false,i_t];exact hKf W2 hk);intro M2 W2 hR2 ho;rw[u_not,Bool.not_true,i_f,fa_o5,ob_kids ho 1 rfl];have lc:∀{W:World} {L:List Ent},OwnS S w0 W L→∀{PK:PKT} {K:VWP},DoX prog (mB .len #[23] 3 #[false] #[vc]) W PK K=K (.int .i64 (o.kids.length:Int)) W:=fun ho=>sl_len Tryz.underlying23 (ha.kept (hI _ _ ho).2).kids.1;rw[lc ho];have hmem:∀(i q:Nat) (z:List UInt8),(midTo o i)[q]?=some z→(Wr.parts o)[1+q]?=some z:=by
   intro i q z hz;obtain⟨t,ht⟩:=mid_split o i;rw[hp,List.getElem?_append_right (by simp),List.length_singleton,Nat.add_sub_cancel_left,ht,List.append_assoc,List.getElem?_append_left (List.getElem?_eq_some_iff.1 hz).1];exact hz
  refine loop (fun vs' w'=>∃(i:Nat) (M':List Ent),vs'=[.int .i64 i]∧i≤o.kids.length∧R (k+1+(midTo o i).length) M'∧OwnS S w0 w' ([endE b5 x y,obE b3 o vk vc]++(loopE L0 lb df++(M'++X)))) (fun vs' _=>o.kids.length - n0 vs')
   ⟨0,M2,rfl,by omega,by simpa[midTo,Wr.partsD,Wr.partsL] using hR2,ho⟩ ?_
  rintro vs' w5 ⟨i,M3,rfl,hi,hR3,ho⟩ _;simp only[S_write_parts_1_1_2,gd,rs];by_cases hlt:(i:Int) < (o.kids.length:Int)
  ·have hi':i < o.kids.length:=by omega
   simp only[hlt,decide_true,i_t];obtain⟨v,p,hv,hr⟩:=kid_at ha hi';obtain⟨r1,r2⟩:=hr w5 (hI _ _ ho).2;refine do_eq r1 |>.mpr (do_eq r2 |>.mpr ?_);obtain⟨vk',vc',cs',rfl,hkid⟩:=hv.open;refine o_oba ho fun b9 w6 ho=>?_;refine ob_put 0 hkid.keys.one hkid.kids.one ho rfl fun w7 ho=>?_;have ho:OwnS S w0 w7 ([obE b9 o.kids[i] vk' vc',endE b5 x y,obE b3 o vk vc]++(loopE L0 lb df++(M3++X))):=ho;refine join fun J2 hJ2=>?_;have hkw:=kid_wt hi'
   -- the kid,behind its key
   have kid:∀(m:Nat) (M4:List Ent) (W:World),(midTo o (i+1)).length=m+(Wr.parts o.kids[i]).length→(∀(j:Nat) (z:List UInt8),(Wr.parts o.kids[i])[j]?=some z→(Wr.parts o)[1+m+j]?=some z)→R (k+1+m) M4 →
     OwnS S w0 W ([obE b9 o.kids[i] vk' vc',endE b5 x y,obE b3 o vk vc]++(loopE L0 lb df++(M4++X)))→J2 [] W:=by
    intro m M4 W hm hsub hR4 ho;refine hJ2 _ _ fun _=>?_;unfold S_write_parts_1_1_3;rw[c2 ho,ob_v ho 0 rfl];refine c_val tell_plain ?_;refine c_any (ih o.kids[i] _ (d+1) M4 ([obE b9 o.kids[i] vk' vc',endE b5 x y,obE b3 o vk vc]++X) (k+1+m) W
     (fun e w'=>(e=.returned (.bool true)∧∃M',R (k+1+m+(Wr.parts o.kids[i]).length) M'∧OwnS S w0 w' (loopE L0 lb df++(M'++([obE b9 o.kids[i] vk' vc',endE b5 x y,obE b3 o vk vc]++X))))∨(e=.returned (.bool false)∧Kf w'))
     (by omega) hkid.ov (by omega) (hkc _ (List.getElem_mem hi')) (by omega) ?_ (by simp[hX1]) (by simp[hX2]) (own_sink ho) hR4 ?_ (fun M' W' h1 h2=>.inl ⟨rfl,M',h1,h2⟩) (fun W' h=>.inr ⟨rfl,h⟩)) ?_
    ·intro h9;have:=(why_fields (Wr.check_why (hkc _ (List.getElem_mem hi')))).2.2.1;exact this ⟨h9,by omega⟩
    ·intro j z hz;rw[show k+1+m+j=k+(1+m+j) by omega];exact hseg _ z (hsub j z hz)
    ·rintro e w8 (⟨rfl,M5,hR5,ho5⟩|⟨rfl,hk⟩)
     ·simp only[Cont];rw[u_not,Bool.not_true,i_f,b_add,wrap64_id (by omega) (by omega)];refine nextX ⟨i+1,M5,rfl,by omega,?_,(own_float ho5).tail⟩ (by simp[n0,RowKit.intOf];omega);rw[hm,←Nat.add_assoc];exact hR5
     ·simp only[Cont];rw[u_not,Bool.not_false,i_t];exact hKf w8 hk
   rw[fa_o0,ob_k ho 2 rfl];simp only[rs];by_cases k7:o.k=7
   ·have hle:o.keys.length=o.kids.length:=by
     have hf:=hform;simp only[Vl.form,k7,true_or,decide_true,Bool.not_true,Bool.false_or,Bool.and_eq_true] at hf;have:=hf.2;simp only[Vl.rising,Bool.and_eq_true,decide_eq_true_eq] at this;exact this.1
    have hik:i < o.keys.length:=by omega
    have hs:midTo o (i+1)=midTo o i++(Pl.pName o.keys[i]).1::Wr.parts o.kids[i]:=by
     unfold midTo;rw[if_pos k7,if_pos k7];exact Wr.partsD_succ o.keys o.kids i hik hi'
    simp only[k7,decide_true,i_t,fa_o4,ob_keys ho 2 rfl];obtain⟨pk',hrk⟩:=key_at ha hik;obtain⟨q1,q2⟩:=hrk w7 (hI _ _ ho).2;refine do_eq q1 |>.mpr (do_eq q2 |>.mpr ?_);refine c_ret (pname_ret o.keys[i] w7) ?_;rintro v8 w8 ⟨rfl,hb8⟩;have ho:=ho.grow hb8;simp only[ex];rw[c1 ho];refine give [obE b9 o.kids[i] vk' vc',endE b5 x y,obE b3 o vk vc] M3 (1+(midTo o i).length) (Pl.pName o.keys[i]).1 w8 _ _ (hmem (i+1) _ _ ?_) (by rw[←Nat.add_assoc];exact hR3) ho (fun M4 W4 hR4 ho4=>?_) (fun W hk=>?_)
    ·rw[hs,List.getElem?_append_right (Nat.le_refl _)];simp
    ·rw[u_not,Bool.not_true,i_f];refine kid ((midTo o i).length+1) M4 W4 ?_ ?_ ?_ ho4
     ·rw[hs];simp;omega
     ·intro j z hz;rw[Nat.add_assoc];refine hmem (i+1) _ z ?_;rw[hs,List.getElem?_append_right (by omega),show (midTo o i).length+1+j - (midTo o i).length=j+1 by omega,List.getElem?_cons_succ];exact hz
     ·rw[show k+1+((midTo o i).length+1)=k+(1+(midTo o i).length)+1 by omega];exact hR4
    ·rw[u_not,Bool.not_false,i_t];exact hKf W hk
   ·have hs:midTo o (i+1)=midTo o i++Wr.parts o.kids[i]:=by
     unfold midTo;rw[if_neg k7,if_neg k7];exact Wr.partsL_succ o.kids i hi'
    simp only[k7,decide_false,i_f];refine kid (midTo o i).length M3 w7 (by rw[hs,List.length_append]) ?_ hR3 ho;intro j z hz;rw[Nat.add_assoc];refine hmem (i+1) _ z ?_;rw[hs,List.getElem?_append_right (by omega),Nat.add_sub_cancel_left];exact hz
  ·simp only[hlt,decide_false,i_f];have hie:i=o.kids.length:=by omega
   subst hie;rw[c1 ho,ia2_1,le1 ho];refine give [endE b5 x y,obE b3 o vk vc] M3 (1+(midTo o o.kids.length).length) y w5 _ _ ?_ (by rw[←Nat.add_assoc];exact hR3) ho (fun M4 W4 hR4 ho4=>hK M4 W4 ?_ ?_) (fun W2 hk=>hKf W2 hk)
   ·rw[hp,List.getElem?_append_right (by simp),List.getElem?_append_right (by simp)];simp
   ·rw[hp];simp only[List.length_append,List.length_cons,List.length_nil];have e:k+(0+1+((midTo o o.kids.length).length+(0+1)))=k+(1+(midTo o o.kids.length).length)+1:=by omega
    rw[e];exact hR4
   ·exact ho4.tail.tail
 rw[fa_o0,ob_k ho 1 rfl];simp only[rs];by_cases k6:o.k=6
 ·simp only[k6,decide_true,i_t];refine hJ _ _ fun _=>main [91] [93] w4 ho (.inl k6) ?_;rw[Wr.parts_eq,if_neg (by omega),if_pos k6,midTo,if_neg (by omega),List.take_length];rfl
 by_cases k7:o.k=7
 ·simp only[k7,Int.reduceEq,decide_true,decide_false,i_t,i_f];rw[mb (x:=[60,60]) (y:=[62,62])];refine o_put 0 ho rfl (new:=[.string ⟨([60,60]:List UInt8).toArray⟩,.string ⟨([62,62]:List UInt8).toArray⟩]) sz2 (by simp;exact⟨rfl,rfl⟩) rfl fun w5 ho=>?_;refine hJ _ _ fun _=>main [60,60] [62,62] w5 ho (.inr k7) ?_;rw[Wr.parts_eq,if_neg (by omega),if_neg (by omega),if_pos k7,midTo,if_pos k7,Wr.partsD_min _ _ _ (.inr (Nat.le_refl _))];rfl
 simp only[k6,k7,decide_false,i_f];rw[ob_v ho 1 rfl];refine c_ret (single_ret o _ d w4 (hI _ _ ho).1 (OV.mono (hA _ _ ho) _ _ (ha.kept (hI _ _ ho).2).ov) hc k6 k7 k9) ?_;intro v5 w5 hnew;have ho:=ho.join hnew;have ho:OwnS S w0 w5 ([StrRow v5 (Wr.parts o),endE b5 [91] [93],obE b3 o vk vc]++(loopE L0 lb df++(M++X))):=ho;have hpos:0 < (Wr.parts o).length:=by rw[Wr.parts_eq,if_neg k6,if_neg k7];split<;>simp
 have hpl:=Wr.parts_len o;obtain⟨g,off,cap,rfl,_⟩:=sl_open (ho.slRow 0 rfl) hpos;rw[show DoX prog (mB .len #[22] 3 #[false] #[.slice (some ⟨g,off,none⟩) (Wr.parts o).length cap]) w5=DoX prog (mB .len #[22] 3 #[false] #[.slice (some ⟨g,off,none⟩) (Wr.parts o).length cap]) w5 from rfl,sl_len Tryz.underlying22 (ho.slRow 0 rfl)];refine loop (fun vs' w'=>∃(i:Nat) (M':List Ent),vs'=[.int .i64 i]∧i≤(Wr.parts o).length∧R (k+i) M'∧OwnS S w0 w' ([StrRow (.slice (some ⟨g,off,none⟩) (Wr.parts o).length cap) (Wr.parts o),endE b5 [91] [93],obE b3 o vk vc]++(loopE L0 lb df++(M'++X))))
  (fun vs' _=>(Wr.parts o).length - n0 vs') ⟨0,M,rfl,by omega,hR,ho⟩ ?_
 rintro vs' w6 ⟨i,M3,rfl,hi,hR3,ho⟩ _;simp only[S_write_parts_1_1_0,gd,rs];by_cases hlt:(i:Int) < ((Wr.parts o).length:Int)
 ·have hi':i < (Wr.parts o).length:=by omega
  simp only[hlt,decide_true,i_t];obtain⟨g',off',cap',he,hcl⟩:=sl_open (ho.slRow 0 rfl) hpos;cases he;refine do_eq (run_ia Tryz.underlying22 (show _=some 1 by kernel_rfl) (by omega) (by omega)) |>.mpr ?_;have hq:=hcl i _ (strsV_get hi');rw[Int.toNat_natCast,Nat.mul_one,l_cell nStr5 hq,c1 ho];refine give [StrRow (.slice (some ⟨g,off,none⟩) (Wr.parts o).length cap) (Wr.parts o),endE b5 [91] [93],obE b3 o vk vc] M3 i (Wr.parts o)[i] w6 _ _ (List.getElem?_eq_getElem hi') hR3 ho (fun M4 W4 hR4 ho4=>?_) (fun W hk=>?_)
  ·rw[u_not,Bool.not_true,i_f,wrap64_id (by omega) (by omega)];exact nextX ⟨i+1,M4,rfl,by omega,hR4,ho4⟩ (by simp[n0,RowKit.intOf];omega)
  ·rw[u_not,Bool.not_false,i_t];exact hKf W hk
 ·simp only[hlt,decide_false,i_f];have hie:i=(Wr.parts o).length:=by omega
  subst hie;exact hK M3 w6 hR3 ho.tail.tail.tail
end
section
open Eng Go.RowKit
def Obw (wb:World)(W:World):Prop:=Tb W∧Kept (InW wb) wb W∧wb.heap.size≤W.heap.size
theorem parts_seq (wb:World)(o:Ob)(vk vc:Value)(cs:List Value)(b:Nat)(ha:ObAt (InW wb) wb o vk vc cs)(hb:o.wt≤100000000)(hc:Vl.check 1 o=0)(k9:o.k≠9) :
  Seq prog (Obw wb) 137 #[] #[.pointer (some ⟨b,0,none⟩)] [obE b o vk vc] (strsV (Wr.parts o)):=by
 intro S w0 w1 L0 lb df M0 R K hI ho hR hy hend;show Calls prog 137 #[.func (.yield lb) #[] #[],.pointer (some ⟨b,0,none⟩)] w1 K;refine S_write_parts_1_ok ?_;unfold S_write_parts_1;refine o_new (fun b=>.pointer (some ⟨b,0,none⟩)) [.func (.yield lb) #[] #[]] 160 (fun _=>by kernel_rfl) ho fun b1 w2 ho=>?_;refine o_new (fun b=>.pointer (some ⟨b,0,none⟩)) [.nilFunc] 111 (fun _=>by kernel_rfl) ho fun b2 w3 ho=>?_;rw[m_func];refine o_store 0 ho rfl (by kernel_rfl) rfl (by simp) fun w4 ho=>?_;have ho:OwnS S w0 w4 ([telE b1 b2,yldE b1 lb]++(loopE L0 lb df++(M0++[obE b o vk vc]))):=ho;rw[l_cell nFo (ho.cell 0 rfl 0 rfl),l_at ((show (Ent.cells b (obC o vk vc) 25).is w4 from ho.mem (by simp[obE])) |> fun h=>AtV.agg aggOb rfl fun j v hj=>by simpa using cells_cell h hj)];refine c_val tell_plain ?_;refine c_any (tell_any (InW wb) wb S w0 L0 lb df b1 b2 R (strsV (Wr.parts o)) (fun W=>K (.returned (.tuple #[])) W) (fun L W h=>⟨(hI L W h).1,(hI L W h).2.1⟩) (fun L W h b hb=>Nat.lt_of_lt_of_le hb (hI L W h).2.2) hy o.wt o _ 1 M0 ([telE b1 b2,yldE b1 lb]++[obE b o vk vc]) 0 w4
  (fun e w'=>(e=.returned (.bool true)∧∃M',R (0+(Wr.parts o).length) M'∧OwnS S w0 w' (loopE L0 lb df++(M'++([telE b1 b2,yldE b1 lb]++[obE b o vk vc]))))∨(e=.returned (.bool false)∧K (.returned (.tuple #[])) w'))
  (Nat.le_refl _) ha.ov hb hc (by omega) k9 (by simp) (by simp) (own_sink ho) hR ?_ (fun M' W' h1 h2=>.inl ⟨rfl,M',h1,h2⟩) (fun W' h=>.inr ⟨rfl,h⟩)) ?_
 ·intro j x hx;rw[Nat.zero_add];unfold strsV;rw[List.getElem?_map,hx];rfl
 ·rintro e w8 (⟨rfl,M5,hR5,ho5⟩|⟨rfl,hk⟩)
  ·simp only[Cont];refine hend M5 _ w8 ?_ ho5;rw[strsV_length,←Nat.zero_add (Wr.parts o).length];exact hR5
  ·exact hk
def slc7 (b:Nat)(v:Value):Ent:=.cells b [v] 22
theorem collectS_ret {I:World→Prop}{f:Nat}{fa ca:Array Value}{F:List Ent}{ns:List (List UInt8)}(hseq:Seq prog I f fa ca F (strsV ns))(hp:plainB prog f=true)(hl:ns.length≤100000000000)
  {S:Nat→Prop} {w0 w:World} {L:List Ent} (hI:∀(L:List Ent) (W:World),OwnS S w0 W L→I W) (ho:OwnS S w0 w (F++L)) :
  Ret prog 89 #[.func (.func f) fa ca] w (fun v w'=>OwnS S w0 w' (StrRow v ns::L)):=by
 refine ret_of fun K hK=>S_slices_Collect_string_ok ?_;unfold S_slices_Collect_string;refine c_any (S_slices_AppendSeq_string_string_ok (K:=RetK fun v w'=>OwnS S w0 w' (StrRow v ns::L)) ?_) (fun e w' ⟨v,he,hv⟩=>by subst he;exact hK _ _ hv);unfold S_slices_AppendSeq_string_string;have ho:=ho.nilRow 9 1;refine o_new (fun b=>.pointer (some ⟨b,0,none⟩)) [.slice none 0 0] 22 (fun _=>by kernel_rfl) ho fun b2 w1 ho=>?_;refine range ho hp fun L0 df lb w2 ho hy=>?_;refine hseq S w0 w2 L0 lb df (slc7 b2 (.slice none 0 0)::StrRow (.slice none 0 0) []::L) (fun k M=>∃v,M=slc7 b2 v::StrRow v (ns.take k)::L) _ hI ?_ ⟨.slice none 0 0,by rw[List.take_zero]⟩ ?_ ?_
 ·refine ho.perm ?_;show List.Perm (_::_::_::_::(F++L)) (_::_::_::_::(L++F));exact (List.Perm.cons _ (List.Perm.cons _ (List.Perm.cons _ (List.Perm.cons _ List.perm_append_comm))))
 ·rintro k v M X W hk ⟨u,rfl⟩ ho;obtain⟨x,hx,rfl⟩:=strs_get hk;have hkl:k < ns.length:=(List.getElem?_eq_some_iff.1 hx).1;have ho:OwnS S w0 W (.obj lb (lp L0 .ready none)::.obj df (.deferred (some []))::slc7 b2 u::StrRow u (ns.take k)::(L++X)):=ho;refine hy _ W _ (ho.at_ 0 rfl) rfl ?_;refine o_beg 0 ho rfl fun W3 ho=>?_;rw[l_cell nSlS5 (ho.cell 2 rfl 0 rfl)];refine o_appS1 3 ho rfl (by rw[List.length_take];omega) fun v' W4 ho=>?_;refine o_store 2 ho rfl (by kernel_rfl) (sl_one5 (ho.slRow 3 rfl)) (by simp) fun W5 ho=>?_;refine o_end 0 ho rfl fun W6 ho=>?_;refine .inl ⟨rfl,slc7 b2 v'::StrRow v' (ns.take (k+1))::L,⟨v',rfl⟩,?_⟩;have e:ns.take (k+1)=ns.take k++[x]:=by
   rw[List.take_succ_eq_append_getElem hkl,(List.getElem?_eq_some_iff.1 hx).2]
  rw[e];exact ho
 ·rintro M X W ⟨u,rfl⟩ ho;rw[strsV_length,List.take_length] at ho;refine⟨_,.ready,none,_,rfl,(by intro h;cases h),ho.at_ 0 rfl,List.mem_cons.2 (.inl rfl),?_⟩;have hp':OwnS S w0 (putO W lb (lp L0 .exhausted none)) (.obj lb (lp L0 .exhausted none)::.obj df (.deferred (some []))::slc7 b2 u::StrRow u ns::(L++X)):=put_iter (o':=lp L0 .exhausted none) ho 0 rfl;have hp':OwnS S w0 (putO W lb (lp L0 .exhausted none)) (.obj df (.deferred (some []))::slc7 b2 u::StrRow u ns::(L++X)):=hp'.tail;rw[l_cell nSlS5 (hp'.cell 1 rfl 0 rfl)];refine leave1 0 hp' rfl fun W4 ho=>?_;show RetK (fun v w'=>OwnS S w0 w' (StrRow v ns::L)) (.returned u) W4;refine retK ?_;exact ho.tail.tail.sub (.cons_cons _ (List.sublist_append_left _ _))
def txtV (x:List UInt8×Int):Value:=.tuple #[.string ⟨x.1.toArray⟩,.int .i64 x.2]
theorem parts_plain:plainB prog 137=true:=by kernel_rfl
theorem n_err {xo yo:Operand}{a b:Int}{w:World}{PK:PKT}{K:VWP}:DoX prog (mEq .neq 30 xo yo (.int .i64 a) (.int .i64 b)) w PK K=K (.bool (decide (a≠b))) w:=n_int
theorem wtext7_ret (o:Ob)(v:Value)(w:World)(ht:Tb w)(hov:OV (InW w) w v o)(hb:o.wt≤100000000):Ret prog 50 #[v] w (fun v w'=>v=txtV (Wr.text o)∧Below w.heap.size w w'):=by
 obtain⟨vk,vc,cs,rfl,ha⟩:=hov.open;refine ret_of fun K hK=>S_write_Text_ok ?_;unfold S_write_Text;refine o_obb o ha.keys.one ha.kids.one (Own.start w) fun b w1 ho=>?_;rw[ob_v ho 0 rfl];refine c_told (vCheck_ret o _ w1 (ha.in_ ho).ov (by omega)) rfl ho fun w2 ho=>?_;rw[n_err];by_cases hc:Vl.check 1 o=0
 case neg=>
  simp only[ne_eq,hc,not_false_eq_true,decide_true,i_t];refine hK _ _ ⟨?_,ho.done⟩;simp[Wr.text,hc,txtV]
 simp only[hc,ne_eq,not_true,decide_false,i_f];rw[fa_o0,ob_k ho 0 rfl];simp only[rs];by_cases k9:o.k=9
 ·simp only[k9,decide_true,i_t];refine hK _ _ ⟨?_,ho.done⟩;simp[Wr.text,hc,k9,txtV]
 simp only[k9,decide_false,i_f];rw[ob_v ho 0 rfl];have ha2:=ha.own ho;refine c_any (S_write_parts_ok (K:=RetK fun v w'=>∃b,v=.func (.func 137) #[] #[.pointer (some ⟨b,0,none⟩)]∧Own w w' [obE b o vk vc]) ?_) ?_
 ·unfold S_write_parts;refine o_obb o ha.keys.one ha.kids.one ho fun b' w3 ho=>?_;rw[m_func];exact⟨_,rfl,b',rfl,ho.sub (.cons_cons _ (List.nil_sublist _))⟩
 ·rintro e w3 ⟨_,rfl,b',rfl,ho⟩;have hpl:=Wr.parts_len o;have hpt:=Wr.parts_tot o;refine c_ret (collectS_ret (S:=NoB) (w0:=w) (L:=[]) (parts_seq w o vk vc cs b' ha hb hc k9) parts_plain (by omega) (fun L W h=>⟨ht.own h,OwnS.keptIn h,h.size⟩) (by simpa using ho)) ?_;intro v4 w4 ho;refine c_told (pjoin_ret (Wr.parts o) v4 w4 (ho.slRow 0 rfl) (by omega)) rfl ho fun w5 ho=>?_;refine hK _ _ ⟨?_,ho.done⟩;simp[Wr.text,hc,k9,txtV]
end
end Go.Proofs.YtkejpieaafeblaaGreatDoor

namespace Go.Proofs.YtkejpieaafeblaaGreatDoor
section
open Eng Go.RowKit
abbrev nilS:Value:=.slice none 0 0
abbrev ob1 (k n g:Int)(s:List UInt8):Ob:=.mk k n g s [] []
section
variable {w:World}{S:Nat→Prop}{w0:World}{L:List Ent}
theorem ret_ob {K:Ending→World→Prop}{b:Nat}{o:Ob}{vk vc:Value}(ho:OwnS S w0 w (obE b o vk vc::L))(k:K (.returned (obV o vk vc)) w):RetX prog [.cell (.pointer (some ⟨b,0,none⟩)) 25] w K:=ret_v1 (rv_cell (ho.agg 0 rfl aggOb)) k
end
def obR (o:Ob)(vk vc:Value)(w:World):VWP:=fun v w'=>v=obV o vk vc∧Below w.heap.size w w'
end
section
open Eng Go.RowKit
def getV (v:Value)(b:Bool):Value:=.tuple #[v,.bool b]
def errV (v:Value)(e:Int):Value:=.tuple #[v,.int .i64 e]
section
variable {w:World}{S:Nat→Prop}{w0:World}{L:List Ent}
theorem ret_ob2 {K:Ending→World→Prop}{b:Nat}{o:Ob}{vk vc x:Value}(i:Nat)(ho:OwnS S w0 w L)(hi:L[i]?=some (obE b o vk vc))(k:K (.returned (.tuple #[obV o vk vc,x])) w):RetX prog [.cell (.pointer (some ⟨b,0,none⟩)) 25,.val x] w K:=
 ret_v2 (rv_cell (ho.agg i hi aggOb)) rv_val k
theorem m_ob0 {PK:PKT}{K:VWP}:DoX prog (mBuild 25 #[]) w PK K=K (obV Vl.ob0 nilS nilS) w:=do_eq (by kernel_rfl)
end
theorem vnull_ret (w:World):Ret prog 36 #[] w (obR (ob1 0 0 0 []) nilS nilS w):=by
 refine ret_of fun K hK=>S_value_Null_ok ?_;unfold S_value_Null;refine o_oba (Own.start w) fun b w1 ho=>?_;rw[m_ob0];refine ob_put 0 rfl rfl ho rfl fun w2 ho=>?_;exact ret_ob ho (hK _ _ ⟨rfl,ho.done⟩)
theorem vint_ret (n:Int)(w:World):Ret prog 49 #[.int .i64 n] w (obR (ob1 2 n 0 []) nilS nilS w):=by
 refine ret_of fun K hK=>S_value_Int_ok ?_;unfold S_value_Int;refine o_oba (Own.start w) fun b w1 ho=>?_;have hb:∀{PK:PKT} {K:VWP},DoX prog (mBuild 25 #[(0,(.int .i64 2)),(1,.int .i64 n)]) w1 PK K=K (obV (ob1 2 n 0 []) nilS nilS) w1:=do_eq (by kernel_rfl);rw[hb];refine ob_put 0 rfl rfl ho rfl fun w2 ho=>?_;exact ret_ob ho (hK _ _ ⟨rfl,ho.done⟩)
theorem vstr_ret (s:List UInt8)(w:World):Ret prog 208 #[.string ⟨s.toArray⟩] w (obR (ob1 4 0 0 s) nilS nilS w):=by
 refine ret_of fun K hK=>S_value_String_ok ?_;unfold S_value_String;refine o_oba (Own.start w) fun b w1 ho=>?_;have hb:∀{PK:PKT} {K:VWP},DoX prog (mBuild 25 #[(0,(.int .i64 4)),(3,.string ⟨s.toArray⟩)]) w1 PK K=K (obV (ob1 4 0 0 s) nilS nilS) w1:=do_eq (by kernel_rfl);rw[hb];refine ob_put 0 rfl rfl ho rfl fun w2 ho=>?_;exact ret_ob ho (hK _ _ ⟨rfl,ho.done⟩)
theorem vname_ret (s:List UInt8)(w:World):Ret prog 209 #[.string ⟨s.toArray⟩] w (obR (ob1 5 0 0 s) nilS nilS w):=by
 refine ret_of fun K hK=>S_value_Name_ok ?_;unfold S_value_Name;refine o_oba (Own.start w) fun b w1 ho=>?_;have hb:∀{PK:PKT} {K:VWP},DoX prog (mBuild 25 #[(0,(.int .i64 5)),(3,.string ⟨s.toArray⟩)]) w1 PK K=K (obV (ob1 5 0 0 s) nilS nilS) w1:=do_eq (by kernel_rfl);rw[hb];refine ob_put 0 rfl rfl ho rfl fun w2 ho=>?_;exact ret_ob ho (hK _ _ ⟨rfl,ho.done⟩)
theorem keyed_ret (o:Ob){vk vc:Value}(hk:vk.oneCell'=true)(hc:vc.oneCell'=true)(w:World):Ret prog 79 #[obV o vk vc] w (fun v w'=>v=.bool (Vl.keyed o)∧Below w.heap.size w w'):=by
 refine ret_of fun K hK=>S_value_keyed_ok ?_;unfold S_value_keyed;refine o_obb o hk hc (Own.start w) fun b w1 ho=>?_;rw[fa_o0,ob_k ho 0 rfl];unfold Vl.keyed at hK;by_cases h7:o.k=7
 ·simp only[rs,h7,decide_true,g_un];exact hK _ _ ⟨by simp[h7],ho.done⟩
 ·simp only[rs,h7,decide_false,fa_o0,ob_k ho 0 rfl];exact hK _ _ ⟨by simp[h7],ho.done⟩
theorem vget_ret (o:Ob)(v:Value)(key:List UInt8)(M:Mem)(w:World)(hw:o.wt≤100000000000)(hM:M.has w)(hv:OV M.A M.w v o) :
  RetM prog 37 #[v,.string ⟨key.toArray⟩] M w (fun r N=>∃v',r=getV v' (Vl.get o key).isSome∧OV N.A N.w v' ((Vl.get o key).getD Vl.ob0)):=by
 obtain⟨vk,vc,cs,rfl,ha⟩:=hv.open;have hww:Ob.wts o.kids≤100000000000:=by cases o;rw[Ob.wt] at hw;simp only[Ob.kids];omega
 have hkt:Pl.tot o.keys≤100000000000:=by cases o;rw[Ob.wt] at hw;simp only[Ob.keys];omega
 have hkl:=Pl.length_tot o.keys;have hlk:=Ob.len_wts o.kids;refine retM_of hM fun K hK=>S_value_Get_ok ?_;unfold S_value_Get;refine o_obb o ha.keys.one ha.kids.one (OwnS.memS hM) fun b w1 ho=>?_;refine o_oba ho fun b4 w2 ho=>?_;rw[ob_v ho 1 rfl];refine c_below ho (R:=fun v=>v=.bool (Vl.keyed o)) (keyed_ret o ha.keys.one ha.kids.one w2) ?_;rintro _ w3 rfl ho;have no:∀{W:World},OwnS M.A w W [obE b4 ob0 nilS nilS,obE b o vk vc,.mem M]→Vl.get o key=none→DoX prog (mBuild 25 #[]) W (pk K) (fun t W=>DoX prog (mStore 25 (.pointer (some ⟨b4,0,none⟩)) t) W (pk K) fun _ W=>RetX prog [.cell (.pointer (some ⟨b4,0,none⟩)) 25,.val (.bool false)] W K):=by
  intro W ho hg;rw[m_ob0];refine ob_put 0 rfl rfl ho rfl fun w4 ho=>?_;refine ret_ob2 0 ho rfl (hK _ _ M _ 2 ho rfl M.le_refl ⟨obV Vl.ob0 nilS nilS,?_,?_⟩)
  ·rw[hg];rfl
  ·rw[hg];exact ob0_ov M
 cases hkd:Vl.keyed o with
|false=>
  simp only[rs,Bool.not_false];exact no ho (by unfold Vl.get;rw[hkd];rfl)
|true=>
  simp only[rs,Bool.not_true];rw[fa_o4,ob_keys ho 1 rfl];refine c_eq (sindex_ret vk o.keys key w3 (ha.keys.now (ho.hasM 2 rfl)) (by omega)) ?_;by_cases hi:o.keys.idxOf key < o.keys.length
  ·rw[if_pos hi];have h0:¬((o.keys.idxOf key:Int) < 0):=by omega
   simp only[rs,h0,decide_false,fa_o5,ob_kids ho 1 rfl];rw[sl_len Tryz.underlying23 (ha.kids.now (ho.hasM 2 rfl))];simp only[rs];by_cases hc:(o.kids.length:Int)≤(o.keys.idxOf key:Int)
   ·simp only[hc,decide_true,rs];refine no ho ?_;unfold Vl.get;rw[hkd,if_pos rfl,if_pos hi,List.getElem?_eq_none (by omega)]
   ·simp only[hc,decide_false,rs,fa_o5,ob_kids ho 1 rfl];have hi':o.keys.idxOf key < o.kids.length:=by omega
    have hg:Vl.get o key=some o.kids[o.keys.idxOf key]:=by
     unfold Vl.get;rw[hkd,if_pos rfl,if_pos hi,List.getElem?_eq_getElem hi']
    obtain⟨x,q,hx,hrx⟩:=kid_at ha hi';obtain⟨r1,r2⟩:=hrx w3 (ho.hasM 2 rfl);refine do_eq r1 |>.mpr (do_eq r2 |>.mpr ?_);have hkw:=kid_wt hi';refine c_mem ho 2 rfl (clone_ret _ x M w3 (by omega) (ho.hasM 2 rfl) hx) fun y N w4 hle hy ho=>?_;obtain⟨yk,yc,ycs,rfl,hya⟩:=hy.open;refine ob_put 0 hya.keys.one hya.kids.one ho rfl fun w5 ho=>?_;refine ret_ob2 0 ho rfl (hK _ _ N _ 2 ho rfl hle ⟨obV o.kids[o.keys.idxOf key] yk yc,?_,?_⟩)
    ·rw[hg];rfl
    ·rw[hg];exact hy
  ·rw[if_neg hi];have h0:((-1:Int) < 0):=by omega
   simp only[rs,h0,decide_true,g_un];refine no ho ?_;unfold Vl.get;rw[hkd,if_pos rfl,if_neg hi]
theorem sound_ret (o:Ob)(v:Value)(M:Mem)(w:World)(hw:o.wt≤100000000000)(hM:M.has w)(hv:OV M.A M.w v o) :
  RetM prog 87 #[v] M w (fun r N=>∃v',r=errV v' (Vl.right o).2∧OV N.A N.w v' (Vl.right o).1):=by
 obtain⟨vk,vc,cs,rfl,ha⟩:=hv.open;refine retM_of hM fun K hK=>S_value_sound_ok ?_;unfold S_value_sound;refine o_obb o ha.keys.one ha.kids.one (OwnS.memS hM) fun b w1 ho=>?_;refine o_oba ho fun b4 w2 ho=>?_;rw[ob_v ho 1 rfl];refine c_below ho (R:=fun v=>v=.int .i64 (Vl.check 1 o)) (vCheck_ret o _ w2 (OV.inw (ho.hasM 2 rfl) hv) (by omega)) ?_;rintro _ w3 rfl ho;simp only[n_err];by_cases hc:Vl.check 1 o=0
 ·simp only[hc,ne_eq,not_true,decide_false,i_f];rw[ob_v ho 1 rfl];refine ob_put 0 ha.keys.one ha.kids.one ho rfl fun w4 ho=>?_;refine ret_ob2 0 ho rfl (hK _ _ M _ 2 ho rfl M.le_refl ⟨obV o vk vc,?_,?_⟩)
  ·simp[Vl.right,hc,errV]
  ·simpa[Vl.right,hc] using hv
 ·simp only[hc,ne_eq,not_false_eq_true,decide_true,i_t];rw[m_ob0];refine ob_put 0 rfl rfl ho rfl fun w4 ho=>?_;refine ret_ob2 0 ho rfl (hK _ _ M _ 2 ho rfl M.le_refl ⟨obV Vl.ob0 nilS nilS,?_,?_⟩)
  ·simp[Vl.right,hc,errV]
  ·simpa[Vl.right,hc] using ob0_ov M
end
end Go.Proofs.YtkejpieaafeblaaGreatDoor



namespace Go.Proofs.YtkejpieaafeblaaGreatDoor
section
open Eng Go.RowKit
section
variable {P:Program}{w w0:World}{L:List Ent}{PK:PKT}{K:VWP}
end
theorem fa_t3 {b:Nat}{w:World}{PK:PKT}{K:VWP}:DoX prog (mFA 58 (.pointer (some ⟨b,0,none⟩)) 3) w PK K=K (.pointer (some ⟨b,3,none⟩)) w:=f_addr (show fOff prog 58 3=some 3 by kernel_rfl)
theorem fa_t4' {b:Nat}{w:World}{PK:PKT}{K:VWP}:DoX prog (mFA 58 (.pointer (some ⟨b,0,none⟩)) 4) w PK K=K (.pointer (some ⟨b,4,none⟩)) w:=f_addr (show fOff prog 58 4=some 4 by kernel_rfl)
end
end Go.Proofs.YtkejpieaafeblaaGreatDoor

namespace Go.Proofs.YtkejpieaafeblaaGreatDoor
section
open Eng
def S_parse_reader_peek (t0 t1:Value)(w:World)(K:Ending→World→Prop):Prop:=
 DoX prog (mAlloc 58) w (pk K) fun t4 w=>
 DoX prog (mNil t0) w (pk K) fun t10 w=>
 DoX prog (mFA 130 t10 0) w (pk K) fun t11 w=>
 DoX prog (mLoad 9 t11) w (pk K) fun t12 w=>
 CallX prog 35 #[t12,t1] w (pk K) fun t14 w=>
 DoX prog (mExt t14 0) w (pk K) fun t15 w=>
 DoX prog (mExt t14 1) w (pk K) fun t16 w=>
 DoX prog (mAlloc 58) w (pk K) fun t6 w=>
 DoX prog (mStore 58 t6 t15) w (pk K) fun _ w=>
 DoX prog (mLoad 58 t6) w (pk K) fun t17 w=>
 DoX prog (mEq .eql 30 (.tmp 18) (.const (.int .i64 0)) t16 (.int .i64 0)) w (pk K) fun t19 w=>
 DoX prog (mStore 58 t4 t17) w (pk K) fun _ w=>
 RetX prog [.cell t4 58,.val t19] w K
theorem S_parse_reader_peek_eq (t0 t1:Value)(w:World)(K:Ending→World→Prop):wpX prog 20 [] [] none (bodyOf Tryz.f246) (topQ prog [.cell 4 58,.tmp 5] K) (startX [t0,t1]) [] w=S_parse_reader_peek t0 t1 w K:=by kernel_rfl
theorem S_parse_reader_peek_ok {t0 t1:Value}{w:World}{K:Ending→World→Prop}(h:S_parse_reader_peek t0 t1 w K):Calls prog 246 #[t0,t1] w K:=
 calls_of_wpX Tryz.func246 rfl rfl rfl rfl (Eq.mpr (S_parse_reader_peek_eq t0 t1 w K) h)
def S_parse_reader_next_2 (t0 t2 t3:Value)(w:World)(K:Ending→World→Prop):Prop:=
 DoX prog (mFA 58 t3 2) w (pk K) fun t26 w=>
 DoX prog (mLoad 3 t26) w (pk K) fun t27 w=>
 DoX prog (mNil t0) w (pk K) fun t28 w=>
 DoX prog (mFA 130 t28 1) w (pk K) fun t29 w=>
 DoX prog (mStore 3 t29 t27) w (pk K) fun _ w=>
 DoX prog (mLoad 58 t3) w (pk K) fun t30 w=>
 DoX prog (mStore 58 t2 t30) w (pk K) fun _ w=>
 RetX prog [.cell t2 58] w K
def S_parse_reader_next_1 (t0 t2 t3:Value)(w:World)(K:Ending→World→Prop):Prop:=
 JoinX (fun J3=>
 DoX prog (mFA 58 t3 0) w (pk K) fun t21 w=>
 DoX prog (mLoad 3 t21) w (pk K) fun t22 w=>
 DoX prog (mEq .eql 3 (.tmp 22) (.const (.int .i64 0)) t22 (.int .i64 0)) w (pk K) fun t23 w=>
 IfX t23 (DoX prog (mIface 198 (.int .i64 4)) w (pk K) fun t24 w=>
 DoX prog (mPanic t24) w (pk K) fun _ w=>
 J3 [] w) (J3 [] w)) (fun vs3 w=>∀_:Sg,S_parse_reader_next_2 t0 t2 t3 w K)
def S_parse_reader_next_0 (t0 t2 t3 t4:Value)(w:World)(K:Ending→World→Prop):Prop:=
 JoinX (fun J2=>
 DoX prog (mEq .neq 30 (.tmp 17) (.const (.int .i64 0)) t4 (.int .i64 0)) w (pk K) fun t18 w=>
 IfX t18 (DoX prog (mIface 198 t4) w (pk K) fun t20 w=>
 DoX prog (mPanic t20) w (pk K) fun _ w=>
 J2 [] w) (J2 [] w)) (fun vs2 w=>∀_:Sg,S_parse_reader_next_1 t0 t2 t3 w K)
def S_parse_reader_next (t0:Value)(w:World)(K:Ending→World→Prop):Prop:=
 DoX prog (mAlloc 58) w (pk K) fun t2 w=>
 HeldX w (fun S1 w=>
 HDo prog (fun _=>True) (mNil t0) fun t7=>
 HDo prog (fun _=>True) (mFA 130 t7 0) fun t8=>
 HDo prog S1 (mLoad 9 t8) fun t9=>
 HDo prog (fun _=>True) (mNil t0) fun t11=>
 HDo prog (fun _=>True) (mFA 130 t11 1) fun t12=>
 HDo prog S1 (mLoad 3 t12) fun t13=>
 (CallX prog 35 #[t9,t13] w (pm1 (pm1 (pm1 (pm1 (pm1 (pm1 (pm1 (pm1 (pm1 (pm1 (pm1 (pm1 (pk K))))))))))))) fun t14 w=>
 (HDo prog (fun _=>True) (mExt t14 0) fun t15=>
 HDo prog (fun _=>True) (mExt t14 1) fun t16=>
 DoX prog (mAlloc 58) w (pm1 (pm1 (pm1 (pm1 (pm1 (pm1 (pm1 (pm1 (pm1 (pm1 (pm1 (pm1 (pk K))))))))))))) fun t3 w=>
 S1 w∧(DoX prog (mStore 58 t3 t15) w (pm1 (pm1 (pm1 (pm1 (pm1 (pm1 (pm1 (pm1 (pm1 (pm1 (pm1 (pm1 (pk K))))))))))))) fun _ w=>
 (S_parse_reader_next_0 t0 t2 t3 t16 w K))))∧(DoX prog (mAlloc 58) w (pm1 (pm1 (pm1 (pm1 (pm1 (pm1 (pm1 (pm1 (pm1 (pm1 (pm1 (pm1 (pk K))))))))))))) fun t3_1 w=>
 S1 w∧(CallX prog 35 #[t9,t13] w (pm1 (pm1 (pm1 (pm1 (pm1 (pm1 (pm1 (pm1 (pm1 (pm1 (pm1 (pm1 (pk K))))))))))))) fun t14_1 w=>
 (HDo prog (fun _=>True) (mExt t14_1 0) fun t15_1=>
 HDo prog (fun _=>True) (mExt t14_1 1) fun t16_1=>
 DoX prog (mStore 58 t3_1 t15_1) w (pm1 (pm1 (pm1 (pm1 (pm1 (pm1 (pm1 (pm1 (pm1 (pm1 (pm1 (pm1 (pk K))))))))))))) fun _ w=>
 (S_parse_reader_next_0 t0 t2 t3_1 t16_1 w K)))))
theorem S_parse_reader_next_eq (t0:Value)(w:World)(K:Ending→World→Prop):wpX prog 31 [(4,[]),(6,[])] [] none (bodyOf Tryz.f159) (topQ prog [.cell 2 58] K) (startX [t0]) [] w=S_parse_reader_next t0 w K:=by kernel_rfl
theorem S_parse_reader_next_ok {t0:Value}{w:World}{K:Ending→World→Prop}(h:S_parse_reader_next t0 w K):Calls prog 159 #[t0] w K:=
 calls_of_wpX Tryz.func159 rfl rfl rfl rfl (Eq.mpr (S_parse_reader_next_eq t0 w K) h)
def S_parse_word (t0 t1 t2:Value)(w:World)(K:Ending→World→Prop):Prop:=
 DoX prog (mBox 58 t0) w (pk K) fun t3 w=>
 DoX prog (mFA 58 t3 0) w (pk K) fun t7 w=>
 DoX prog (mLoad 3 t7) w (pk K) fun t8 w=>
 DoX prog (mEq .eql 3 (.tmp 8) (.tmp 9) t8 t1) w (pk K) fun t10 w=>
 GDo t10 true (fun E=>DoX prog (mFA 58 t3 4) w (pk K) E) w fun t12 w=>
 GDo t10 true (fun E=>DoX prog (mLoad 9 t12) w (pk K) E) w fun t13 w=>
 GDo t10 true (fun E=>E t2 w) w fun t14 w=>
 GDo t10 true (fun E=>DoX prog (mEq .eql 9 (.tmp 13) (.tmp 14) t13 t14) w (pk K) E) w fun t15 w=>
 DoX prog (mPick t10 t15 (.bool false)) w (pk K) fun t16 w=>
 K (.returned t16) w
theorem S_parse_word_eq (t0 t1 t2:Value)(w:World)(K:Ending→World→Prop):wpX prog 17 [] [] none (bodyOf Tryz.f247) (topQ prog [.tmp 6] K) (startX [t0,t1,t2]) [] w=S_parse_word t0 t1 t2 w K:=by kernel_rfl
theorem S_parse_word_ok {t0 t1 t2:Value}{w:World}{K:Ending→World→Prop}(h:S_parse_word t0 t1 t2 w K):Calls prog 247 #[t0,t1,t2] w K:=
 calls_of_wpX Tryz.func247 rfl rfl rfl rfl (Eq.mpr (S_parse_word_eq t0 t1 t2 w K) h)
def S_parse_begins (t0:Value)(w:World)(K:Ending→World→Prop):Prop:=
 DoX prog (mBox 58 t0) w (pk K) fun t1 w=>
 DoX prog (mFA 58 t1 0) w (pk K) fun t3 w=>
 DoX prog (mLoad 3 t3) w (pk K) fun t4 w=>
 DoX prog (mEq .eql 3 (.tmp 4) (.const (.int .i64 5)) t4 (.int .i64 5)) w (pk K) fun t6 w=>
 IfX t6 (DoX prog (mFA 58 t1 4) w (pk K) fun t7 w=>
 DoX prog (mLoad 9 t7) w (pk K) fun t8 w=>
 DoX prog (mEq .eql 9 (.tmp 8) (.const (.string ⟨#[116,114,117,101]⟩)) t8 (.string ⟨#[116,114,117,101]⟩)) w (pk K) fun t9 w=>
 GDo t9 false (fun E=>DoX prog (mFA 58 t1 4) w (pk K) E) w fun t11 w=>
 GDo t9 false (fun E=>DoX prog (mLoad 9 t11) w (pk K) E) w fun t12 w=>
 GDo t9 false (fun E=>DoX prog (mEq .eql 9 (.tmp 12) (.const (.string ⟨#[102,97,108,115,101]⟩)) t12 (.string ⟨#[102,97,108,115,101]⟩)) w (pk K) E) w fun t13 w=>
 DoX prog (mPick t9 (.bool true) t13) w (pk K) fun t14 w=>
 GDo t14 false (fun E=>DoX prog (mFA 58 t1 4) w (pk K) E) w fun t16 w=>
 GDo t14 false (fun E=>DoX prog (mLoad 9 t16) w (pk K) E) w fun t17 w=>
 GDo t14 false (fun E=>DoX prog (mEq .eql 9 (.tmp 17) (.const (.string ⟨#[110,117,108,108]⟩)) t17 (.string ⟨#[110,117,108,108]⟩)) w (pk K) E) w fun t18 w=>
 DoX prog (mPick t14 (.bool true) t18) w (pk K) fun t19 w=>
 K (.returned t19) w) (DoX prog (mEq .eql 3 (.tmp 4) (.const (.int .i64 6)) t4 (.int .i64 6)) w (pk K) fun t21 w=>
 IfX t21 (DoX prog (mFA 58 t1 4) w (pk K) fun t22 w=>
 DoX prog (mLoad 9 t22) w (pk K) fun t23 w=>
 DoX prog (mEq .eql 9 (.tmp 23) (.const (.string ⟨#[91]⟩)) t23 (.string ⟨#[91]⟩)) w (pk K) fun t24 w=>
 GDo t24 false (fun E=>DoX prog (mFA 58 t1 4) w (pk K) E) w fun t26 w=>
 GDo t24 false (fun E=>DoX prog (mLoad 9 t26) w (pk K) E) w fun t27 w=>
 GDo t24 false (fun E=>DoX prog (mEq .eql 9 (.tmp 27) (.const (.string ⟨#[60,60]⟩)) t27 (.string ⟨#[60,60]⟩)) w (pk K) E) w fun t28 w=>
 DoX prog (mPick t24 (.bool true) t28) w (pk K) fun t29 w=>
 K (.returned t29) w) (K (.returned (.bool true)) w))
theorem S_parse_begins_eq (t0:Value)(w:World)(K:Ending→World→Prop):wpX prog 30 [] [] none (bodyOf Tryz.f205) (topQ prog [.tmp 2] K) (startX [t0]) [] w=S_parse_begins t0 w K:=by kernel_rfl
theorem S_parse_begins_ok {t0:Value}{w:World}{K:Ending→World→Prop}(h:S_parse_begins t0 w K):Calls prog 205 #[t0] w K:=
 calls_of_wpX Tryz.func205 rfl rfl rfl rfl (Eq.mpr (S_parse_begins_eq t0 w K) h)
def S_parse_reader_ref (t0 t1:Value)(w:World)(K:Ending→World→Prop):Prop:=
 DoX prog (mBox 58 t1) w (pk K) fun t3 w=>
 DoX prog (mAlloc 25) w (pk K) fun t4 w=>
 DoX prog (mFA 58 t3 3) w (pk K) fun t9 w=>
 DoX prog (mLoad 2 t9) w (pk K) fun t10 w=>
 DoX prog (mBin .lss 2 t10 (.int .i64 1)) w (pk K) fun t11 w=>
 GDo t11 false (fun E=>DoX prog (mFA 58 t3 3) w (pk K) E) w fun t13 w=>
 GDo t11 false (fun E=>DoX prog (mLoad 2 t13) w (pk K) E) w fun t14 w=>
 GDo t11 false (fun E=>DoX prog (mBin .gtr 2 t14 (.int .i64 8191)) w (pk K) E) w fun t15 w=>
 DoX prog (mPick t11 (.bool true) t15) w (pk K) fun t16 w=>
 IfX t16 (DoX prog (mBuild 25 #[]) w (pk K) fun t17 w=>
 DoX prog (mStore 25 t4 t17) w (pk K) fun _ w=>
 RetX prog [.cell t4 25,.val (.bool false)] w K) (DoX prog (mFA 58 t3 2) w (pk K) fun t20 w=>
 DoX prog (mLoad 3 t20) w (pk K) fun t21 w=>
 CallX prog 246 #[t0,t21] w (pk K) fun t22 w=>
 DoX prog (mExt t22 0) w (pk K) fun t23 w=>
 DoX prog (mExt t22 1) w (pk K) fun t24 w=>
 DoX prog (mAlloc 58) w (pk K) fun t6 w=>
 DoX prog (mStore 58 t6 t23) w (pk K) fun _ w=>
 DoX prog (mUn .not t24) w (pk K) fun t26 w=>
 GDo t26 false (fun E=>DoX prog (mFA 58 t6 0) w (pk K) E) w fun t28 w=>
 GDo t26 false (fun E=>DoX prog (mLoad 3 t28) w (pk K) E) w fun t29 w=>
 GDo t26 false (fun E=>DoX prog (mEq .neq 3 (.tmp 29) (.const (.int .i64 1)) t29 (.int .i64 1)) w (pk K) E) w fun t30 w=>
 DoX prog (mPick t26 (.bool true) t30) w (pk K) fun t31 w=>
 GDo t31 false (fun E=>DoX prog (mFA 58 t6 3) w (pk K) E) w fun t33 w=>
 GDo t31 false (fun E=>DoX prog (mLoad 2 t33) w (pk K) E) w fun t34 w=>
 GDo t31 false (fun E=>DoX prog (mBin .lss 2 t34 (.int .i64 0)) w (pk K) E) w fun t35 w=>
 DoX prog (mPick t31 (.bool true) t35) w (pk K) fun t36 w=>
 GDo t36 false (fun E=>DoX prog (mFA 58 t6 3) w (pk K) E) w fun t38 w=>
 GDo t36 false (fun E=>DoX prog (mLoad 2 t38) w (pk K) E) w fun t39 w=>
 GDo t36 false (fun E=>DoX prog (mBin .gtr 2 t39 (.int .i64 65535)) w (pk K) E) w fun t40 w=>
 DoX prog (mPick t36 (.bool true) t40) w (pk K) fun t41 w=>
 IfX t41 (DoX prog (mBuild 25 #[]) w (pk K) fun t42 w=>
 DoX prog (mStore 25 t4 t42) w (pk K) fun _ w=>
 RetX prog [.cell t4 25,.val (.bool false)] w K) (DoX prog (mFA 58 t6 2) w (pk K) fun t45 w=>
 DoX prog (mLoad 3 t45) w (pk K) fun t46 w=>
 CallX prog 246 #[t0,t46] w (pk K) fun t47 w=>
 DoX prog (mExt t47 0) w (pk K) fun t48 w=>
 DoX prog (mExt t47 1) w (pk K) fun t49 w=>
 DoX prog (mAlloc 58) w (pk K) fun t8 w=>
 DoX prog (mStore 58 t8 t48) w (pk K) fun _ w=>
 DoX prog (mUn .not t49) w (pk K) fun t51 w=>
 GDo t51 false (fun E=>DoX prog (mLoad 58 t8) w (pk K) E) w fun t53 w=>
 GDo t51 false (fun E=>CallX prog 247 #[t53,(.int .i64 5),(.string ⟨#[82]⟩)] w (pk K) E) w fun t54 w=>
 GDo t51 false (fun E=>DoX prog (mUn .not t54) w (pk K) E) w fun t55 w=>
 DoX prog (mPick t51 (.bool true) t55) w (pk K) fun t56 w=>
 IfX t56 (DoX prog (mBuild 25 #[]) w (pk K) fun t57 w=>
 DoX prog (mStore 25 t4 t57) w (pk K) fun _ w=>
 RetX prog [.cell t4 25,.val (.bool false)] w K) (DoX prog (mFA 58 t8 2) w (pk K) fun t59 w=>
 DoX prog (mLoad 3 t59) w (pk K) fun t60 w=>
 DoX prog (mNil t0) w (pk K) fun t61 w=>
 DoX prog (mFA 130 t61 1) w (pk K) fun t62 w=>
 DoX prog (mStore 3 t62 t60) w (pk K) fun _ w=>
 DoX prog (mFA 58 t3 3) w (pk K) fun t63 w=>
 DoX prog (mLoad 2 t63) w (pk K) fun t64 w=>
 DoX prog (mFA 58 t6 3) w (pk K) fun t65 w=>
 DoX prog (mLoad 2 t65) w (pk K) fun t66 w=>
 CallX prog 248 #[t64,t66] w (pk K) fun t67 w=>
 DoX prog (mStore 25 t4 t67) w (pk K) fun _ w=>
 RetX prog [.cell t4 25,.val (.bool true)] w K)))
theorem S_parse_reader_ref_eq (t0 t1:Value)(w:World)(K:Ending→World→Prop):wpX prog 68 [] [] none (bodyOf Tryz.f206) (topQ prog [.cell 4 25,.tmp 5] K) (startX [t0,t1]) [] w=S_parse_reader_ref t0 t1 w K:=by kernel_rfl
theorem S_parse_reader_ref_ok {t0 t1:Value}{w:World}{K:Ending→World→Prop}(h:S_parse_reader_ref t0 t1 w K):Calls prog 206 #[t0,t1] w K:=
 calls_of_wpX Tryz.func206 rfl rfl rfl rfl (Eq.mpr (S_parse_reader_ref_eq t0 t1 w K) h)
def S_parse_reader_object_1 (t0 t2 t4 t6:Value)(w:World)(K:Ending→World→Prop):Prop:=
 DoX prog (mFA 58 t4 0) w (pk K) fun t16 w=>
 DoX prog (mLoad 3 t16) w (pk K) fun t17 w=>
 DoX prog (mEq .eql 3 (.tmp 17) (.const (.int .i64 1)) t17 (.int .i64 1)) w (pk K) fun t19 w=>
 IfX t19 (DoX prog (mLoad 58 t4) w (pk K) fun t22 w=>
 CallX prog 206 #[t0,t22] w (pk K) fun t23 w=>
 DoX prog (mExt t23 0) w (pk K) fun t24 w=>
 DoX prog (mExt t23 1) w (pk K) fun t25 w=>
 DoX prog (mAlloc 25) w (pk K) fun t7 w=>
 DoX prog (mStore 25 t7 t24) w (pk K) fun _ w=>
 IfX t25 (DoX prog (mLoad 25 t7) w (pk K) fun t27 w=>
 DoX prog (mStore 25 t6 t27) w (pk K) fun _ w=>
 RetX prog [.cell t6 25] w K) (DoX prog (mFA 58 t4 3) w (pk K) fun t28 w=>
 DoX prog (mLoad 2 t28) w (pk K) fun t29 w=>
 CallX prog 49 #[t29] w (pk K) fun t30 w=>
 DoX prog (mStore 25 t6 t30) w (pk K) fun _ w=>
 RetX prog [.cell t6 25] w K)) (DoX prog (mEq .eql 3 (.tmp 17) (.const (.int .i64 2)) t17 (.int .i64 2)) w (pk K) fun t32 w=>
 IfX t32 (DoX prog (mFA 58 t4 3) w (pk K) fun t33 w=>
 DoX prog (mLoad 2 t33) w (pk K) fun t34 w=>
 CallX prog 207 #[t34] w (pk K) fun t35 w=>
 DoX prog (mStore 25 t6 t35) w (pk K) fun _ w=>
 RetX prog [.cell t6 25] w K) (DoX prog (mEq .eql 3 (.tmp 17) (.const (.int .i64 3)) t17 (.int .i64 3)) w (pk K) fun t37 w=>
 IfX t37 (DoX prog (mFA 58 t4 4) w (pk K) fun t38 w=>
 DoX prog (mLoad 9 t38) w (pk K) fun t39 w=>
 CallX prog 208 #[t39] w (pk K) fun t40 w=>
 DoX prog (mStore 25 t6 t40) w (pk K) fun _ w=>
 RetX prog [.cell t6 25] w K) (DoX prog (mEq .eql 3 (.tmp 17) (.const (.int .i64 4)) t17 (.int .i64 4)) w (pk K) fun t42 w=>
 IfX t42 (DoX prog (mFA 58 t4 4) w (pk K) fun t43 w=>
 DoX prog (mLoad 9 t43) w (pk K) fun t44 w=>
 CallX prog 209 #[t44] w (pk K) fun t45 w=>
 DoX prog (mStore 25 t6 t45) w (pk K) fun _ w=>
 RetX prog [.cell t6 25] w K) (DoX prog (mEq .eql 3 (.tmp 17) (.const (.int .i64 5)) t17 (.int .i64 5)) w (pk K) fun t47 w=>
 IfX t47 (DoX prog (mFA 58 t4 4) w (pk K) fun t48 w=>
 DoX prog (mLoad 9 t48) w (pk K) fun t49 w=>
 DoX prog (mEq .eql 9 (.tmp 49) (.const (.string ⟨#[110,117,108,108]⟩)) t49 (.string ⟨#[110,117,108,108]⟩)) w (pk K) fun t50 w=>
 IfX t50 (CallX prog 36 #[] w (pk K) fun t51 w=>
 DoX prog (mStore 25 t6 t51) w (pk K) fun _ w=>
 RetX prog [.cell t6 25] w K) (DoX prog (mFA 58 t4 4) w (pk K) fun t52 w=>
 DoX prog (mLoad 9 t52) w (pk K) fun t53 w=>
 DoX prog (mEq .eql 9 (.tmp 53) (.const (.string ⟨#[116,114,117,101]⟩)) t53 (.string ⟨#[116,114,117,101]⟩)) w (pk K) fun t54 w=>
 CallX prog 210 #[t54] w (pk K) fun t55 w=>
 DoX prog (mStore 25 t6 t55) w (pk K) fun _ w=>
 RetX prog [.cell t6 25] w K)) (DoX prog (mFA 58 t4 4) w (pk K) fun t56 w=>
 DoX prog (mLoad 9 t56) w (pk K) fun t57 w=>
 DoX prog (mEq .eql 9 (.tmp 57) (.const (.string ⟨#[91]⟩)) t57 (.string ⟨#[91]⟩)) w (pk K) fun t58 w=>
 IfX t58 (DoX prog (mBin .add 3 t2 (.int .i64 1)) w (pk K) fun t61 w=>
 CallX prog 211 #[t0,t61] w (pk K) fun t62 w=>
 DoX prog (mStore 25 t6 t62) w (pk K) fun _ w=>
 RetX prog [.cell t6 25] w K) (DoX prog (mBin .add 3 t2 (.int .i64 1)) w (pk K) fun t65 w=>
 CallX prog 212 #[t0,t65] w (pk K) fun t66 w=>
 DoX prog (mStore 25 t6 t66) w (pk K) fun _ w=>
 RetX prog [.cell t6 25] w K))))))
def S_parse_reader_object_0 (t0 t2 t4 t6:Value)(w:World)(K:Ending→World→Prop):Prop:=
 JoinX (fun J2=>
 DoX prog (mBin .geq 3 t2 (.int .i64 24)) w (pk K) fun t14 w=>
 IfX t14 (DoX prog (mIface 198 (.int .i64 7)) w (pk K) fun t15 w=>
 DoX prog (mPanic t15) w (pk K) fun _ w=>
 J2 [] w) (J2 [] w)) (fun vs2 w=>∀_:Sg,S_parse_reader_object_1 t0 t2 t4 t6 w K)
def S_parse_reader_object (t0 t1 t2:Value)(w:World)(K:Ending→World→Prop):Prop:=
 DoX prog (mBox 58 t1) w (pk K) fun t4 w=>
 DoX prog (mAlloc 25) w (pk K) fun t6 w=>
 JoinX (fun J1=>
 DoX prog (mLoad 58 t4) w (pk K) fun t9 w=>
 CallX prog 205 #[t9] w (pk K) fun t10 w=>
 DoX prog (mUn .not t10) w (pk K) fun t11 w=>
 IfX t11 (DoX prog (mIface 198 (.int .i64 3)) w (pk K) fun t12 w=>
 DoX prog (mPanic t12) w (pk K) fun _ w=>
 J1 [] w) (J1 [] w)) (fun vs1 w=>∀_:Sg,S_parse_reader_object_0 t0 t2 t4 t6 w K)
theorem S_parse_reader_object_eq (t0 t1 t2:Value)(w:World)(K:Ending→World→Prop):wpX prog 67 [(3,[]),(5,[])] [] none (bodyOf Tryz.f158) (topQ prog [.cell 6 25] K) (startX [t0,t1,t2]) [] w=S_parse_reader_object t0 t1 t2 w K:=by kernel_rfl
theorem S_parse_reader_object_ok {t0 t1 t2:Value}{w:World}{K:Ending→World→Prop}(h:S_parse_reader_object t0 t1 t2 w K):Calls prog 158 #[t0,t1,t2] w K:=
 calls_of_wpX Tryz.func158 rfl rfl rfl rfl (Eq.mpr (S_parse_reader_object_eq t0 t1 t2 w K) h)
def S_parse_reader_array_1 (t0 t1 t5 t6:Value)(w:World)(N1:List Value→World→Prop)(K:Ending→World→Prop):Prop:=
 HeldX w (fun S3 w=>
 HDo prog (fun _=>True) (mFA 25 t5 5) fun t26=>
 HDo prog S3 (mLoad 23 t26) fun t27=>
 HDo prog S3 (mLoad 58 t6) fun t29=>
 CallX prog 158 #[t0,t29,t1] w (pm1 (pm1 (pm1 (pm1 (pm1 (pm1 (pk K))))))) fun t31 w=>
 S3 w∧(DoX prog (mBuildS 23 1 #[(0,t31)]) w (pm1 (pm1 (pm1 (pm1 (pm1 (pm1 (pk K))))))) fun t32 w=>
 S3 w∧(DoX prog (mB .append #[23,23] 23 #[false,false] #[t27,t32]) w (pm1 (pm1 (pm1 (pm1 (pm1 (pm1 (pk K))))))) fun t33 w=>
 S3 w∧(HDo prog (fun _=>True) (mFA 25 t5 5) fun t34=>
 DoX prog (mStore 23 t34 t33) w (pm1 (pm1 (pm1 (pm1 (pm1 (pm1 (pk K))))))) fun _ w=>
 (N1 [] w)))))
def S_parse_reader_array_0 (t0 t1 t4 t5:Value)(w:World)(N1:List Value→World→Prop)(K:Ending→World→Prop):Prop:=
 CallX prog 159 #[t0] w (pk K) fun t9 w=>
 DoX prog (mAlloc 58) w (pk K) fun t6 w=>
 DoX prog (mStore 58 t6 t9) w (pk K) fun _ w=>
 DoX prog (mLoad 58 t6) w (pk K) fun t10 w=>
 CallX prog 247 #[t10,(.int .i64 6),(.string ⟨#[93]⟩)] w (pk K) fun t11 w=>
 IfX t11 (DoX prog (mLoad 25 t5) w (pk K) fun t12 w=>
 DoX prog (mStore 25 t4 t12) w (pk K) fun _ w=>
 RetX prog [.cell t4 25] w K) (JoinX (fun J2=>
 DoX prog (mLoad 58 t6) w (pk K) fun t13 w=>
 CallX prog 205 #[t13] w (pk K) fun t14 w=>
 GDo t14 true (fun E=>E t1 w) w fun t16 w=>
 GDo t14 true (fun E=>DoX prog (mBin .lss 3 t16 (.int .i64 24)) w (pk K) E) w fun t17 w=>
 DoX prog (mPick t14 t17 (.bool false)) w (pk K) fun t18 w=>
 GDo t18 true (fun E=>DoX prog (mFA 25 t5 5) w (pk K) E) w fun t20 w=>
 GDo t18 true (fun E=>DoX prog (mLoad 23 t20) w (pk K) E) w fun t21 w=>
 GDo t18 true (fun E=>DoX prog (mB .len #[23] 3 #[false] #[t21]) w (pk K) E) w fun t22 w=>
 GDo t18 true (fun E=>DoX prog (mBin .geq 3 t22 (.int .i64 8191)) w (pk K) E) w fun t23 w=>
 DoX prog (mPick t18 t23 (.bool false)) w (pk K) fun t24 w=>
 IfX t24 (DoX prog (mIface 198 (.int .i64 6)) w (pk K) fun t25 w=>
 DoX prog (mPanic t25) w (pk K) fun _ w=>
 J2 [] w) (J2 [] w)) (fun vs2 w=>∀_:Sg,S_parse_reader_array_1 t0 t1 t5 t6 w N1 K))
def S_parse_reader_array (t0 t1:Value)(w:World)(K:Ending→World→Prop):Prop:=
 DoX prog (mAlloc 25) w (pk K) fun t4 w=>
 DoX prog (mBuild 25 #[(0,(.int .i64 6))]) w (pk K) fun t7 w=>
 DoX prog (mAlloc 25) w (pk K) fun t5 w=>
 DoX prog (mStore 25 t5 t7) w (pk K) fun _ w=>
 LoopX [] w (fun vs1 w N1=>∀_:Sg,S_parse_reader_array_0 t0 t1 t4 t5 w N1 K)
theorem S_parse_reader_array_eq (t0 t1:Value)(w:World)(K:Ending→World→Prop):wpX prog 35 [(7,[])] [(2,[])] none (bodyOf Tryz.f211) (topQ prog [.cell 4 25] K) (startX [t0,t1]) [] w=S_parse_reader_array t0 t1 w K:=by kernel_rfl
theorem S_parse_reader_array_ok {t0 t1:Value}{w:World}{K:Ending→World→Prop}(h:S_parse_reader_array t0 t1 w K):Calls prog 211 #[t0,t1] w K:=
 calls_of_wpX Tryz.func211 rfl rfl rfl rfl (Eq.mpr (S_parse_reader_array_eq t0 t1 w K) h)
def S_parse_reader_dict_3 (t0 t1 t5 t6:Value)(w:World)(N1:List Value→World→Prop)(K:Ending→World→Prop):Prop:=
 HeldX w (fun S5 w=>
 HDo prog S5 (mFA 58 t6 4) fun t40=>
 HDo prog S5 (mLoad 9 t40) fun t41=>
 CallX prog 159 #[t0] w (pm1 (pm1 (pm1 (pm1 (pm1 (pm1 (pk K))))))) fun t44 w=>
 S5 w∧(CallX prog 158 #[t0,t44,t1] w (pm1 (pm1 (pm1 (pm1 (pm1 (pm1 (pk K))))))) fun t46 w=>
 S5 w∧(DoX prog (mMapU 224 t5 t41 t46) w (pm1 (pm1 (pm1 (pm1 (pm1 (pm1 (pk K))))))) fun _ w=>
 S5 w∧(N1 [] w))))
def S_parse_reader_dict_2 (t4 t5 t9 t68 t69 t70:Value)(w:World)(N3:List Value→World→Prop)(K:Ending→World→Prop):Prop:=
 DoX prog (mBin .lss 3 t70 t69) w (pk K) fun t71 w=>
 IfX t71 (DoX prog (mIA 22 t68 t70) w (pk K) fun t72 w=>
 DoX prog (mLoad 9 t72) w (pk K) fun t73 w=>
 DoX prog (mFA 25 t9 5) w (pk K) fun t74 w=>
 DoX prog (mLoad 23 t74) w (pk K) fun t75 w=>
 DoX prog (mLook 224 t5 t73 false) w (pk K) fun t78 w=>
 DoX prog (mBuildS 23 1 #[(0,t78)]) w (pk K) fun t79 w=>
 DoX prog (mB .append #[23,23] 23 #[false,false] #[t75,t79]) w (pk K) fun t80 w=>
 DoX prog (mFA 25 t9 5) w (pk K) fun t81 w=>
 DoX prog (mStore 23 t81 t80) w (pk K) fun _ w=>
 DoX prog (mBin .add 3 t70 (.int .i64 1)) w (pk K) fun t82 w=>
 N3 [t82] w) (DoX prog (mLoad 25 t9) w (pk K) fun t83 w=>
 DoX prog (mStore 25 t4 t83) w (pk K) fun _ w=>
 RetX prog [.cell t4 25] w K)
def S_parse_reader_dict_1 (t4 t5 t9 t49:Value)(w:World)(N2:List Value→World→Prop)(K:Ending→World→Prop):Prop:=
 DoX prog (mNext t49 false 0) w (pk K) fun t50 w=>
 DoX prog (mExt t50 0) w (pk K) fun t51 w=>
 IfX t51 (DoX prog (mEntry t49) w (pk K) fun t52 w=>
 DoX prog (mExt t52 0) w (pk K) fun t53 w=>
 DoX prog (mExt t52 1) w (pk K) fun t54 w=>
 DoX prog (mAlloc 25) w (pk K) fun t11 w=>
 DoX prog (mStore 25 t11 t54) w (pk K) fun _ w=>
 DoX prog (mFA 25 t11 0) w (pk K) fun t55 w=>
 DoX prog (mLoad 3 t55) w (pk K) fun t56 w=>
 DoX prog (mEq .neq 3 (.tmp 56) (.const (.int .i64 0)) t56 (.int .i64 0)) w (pk K) fun t57 w=>
 IfX t57 (DoX prog (mFA 25 t9 4) w (pk K) fun t58 w=>
 DoX prog (mLoad 22 t58) w (pk K) fun t59 w=>
 DoX prog (mBuildS 22 1 #[(0,t53)]) w (pk K) fun t61 w=>
 DoX prog (mB .append #[22,22] 22 #[false,false] #[t59,t61]) w (pk K) fun t62 w=>
 DoX prog (mFA 25 t9 4) w (pk K) fun t63 w=>
 DoX prog (mStore 22 t63 t62) w (pk K) fun _ w=>
 N2 [] w) (N2 [] w)) (DoX prog (mFA 25 t9 4) w (pk K) fun t64 w=>
 DoX prog (mLoad 22 t64) w (pk K) fun t65 w=>
 CallX prog 249 #[t65] w (pk K) fun t66 w=>
 DoX prog (mFA 25 t9 4) w (pk K) fun t67 w=>
 DoX prog (mLoad 22 t67) w (pk K) fun t68 w=>
 DoX prog (mB .len #[22] 3 #[false] #[t68]) w (pk K) fun t69 w=>
 LoopX [(.int .i64 0)] w (fun vs3 w N3=>∀_:Sg,S_parse_reader_dict_2 t4 t5 t9 t68 t69 (vs3.getD 0 undef) w N3 K))
def S_parse_reader_dict_0 (t0 t1 t4 t5:Value)(w:World)(N1:List Value→World→Prop)(K:Ending→World→Prop):Prop:=
 CallX prog 159 #[t0] w (pk K) fun t16 w=>
 DoX prog (mAlloc 58) w (pk K) fun t6 w=>
 DoX prog (mStore 58 t6 t16) w (pk K) fun _ w=>
 DoX prog (mLoad 58 t6) w (pk K) fun t17 w=>
 CallX prog 247 #[t17,(.int .i64 6),(.string ⟨#[62,62]⟩)] w (pk K) fun t18 w=>
 IfX t18 (DoX prog (mBuild 25 #[(0,(.int .i64 7))]) w (pk K) fun t47 w=>
 DoX prog (mAlloc 25) w (pk K) fun t9 w=>
 DoX prog (mStore 25 t9 t47) w (pk K) fun _ w=>
 DoX prog (mRange 224 t5) w (pk K) fun t49 w=>
 LoopX [] w (fun vs2 w N2=>∀_:Sg,S_parse_reader_dict_1 t4 t5 t9 t49 w N2 K)) (DoX prog (mFA 58 t6 4) w (pk K) fun t21 w=>
 DoX prog (mLoad 9 t21) w (pk K) fun t22 w=>
 DoX prog (mLook 224 t5 t22 true) w (pk K) fun t23 w=>
 DoX prog (mExt t23 0) w (pk K) fun t24 w=>
 DoX prog (mExt t23 1) w (pk K) fun t25 w=>
 DoX prog (mAlloc 25) w (pk K) fun t7 w=>
 DoX prog (mStore 25 t7 t24) w (pk K) fun _ w=>
 JoinX (fun J4=>
 DoX prog (mFA 58 t6 0) w (pk K) fun t27 w=>
 DoX prog (mLoad 3 t27) w (pk K) fun t28 w=>
 DoX prog (mEq .neq 3 (.tmp 28) (.const (.int .i64 4)) t28 (.int .i64 4)) w (pk K) fun t29 w=>
 IfX t29 (DoX prog (mIface 198 (.int .i64 3)) w (pk K) fun t30 w=>
 DoX prog (mPanic t30) w (pk K) fun _ w=>
 J4 [] w) (IfX t25 (DoX prog (mIface 198 (.int .i64 9)) w (pk K) fun t33 w=>
 DoX prog (mPanic t33) w (pk K) fun _ w=>
 J4 [] w) (DoX prog (mB .len #[224] 3 #[false] #[t5]) w (pk K) fun t36 w=>
 DoX prog (mBin .geq 3 t36 (.int .i64 8191)) w (pk K) fun t37 w=>
 IfX t37 (DoX prog (mIface 198 (.int .i64 6)) w (pk K) fun t38 w=>
 DoX prog (mPanic t38) w (pk K) fun _ w=>
 J4 [] w) (J4 [] w)))) (fun vs4 w=>∀_:Sg,S_parse_reader_dict_3 t0 t1 t5 t6 w N1 K))
def S_parse_reader_dict (t0 t1:Value)(w:World)(K:Ending→World→Prop):Prop:=
 DoX prog (mAlloc 25) w (pk K) fun t4 w=>
 DoX prog (mMap 224 none) w (pk K) fun t14 w=>
 LoopX [] w (fun vs1 w N1=>∀_:Sg,S_parse_reader_dict_0 t0 t1 t4 t14 w N1 K)
theorem S_parse_reader_dict_eq (t0 t1:Value)(w:World)(K:Ending→World→Prop):wpX prog 84 [(11,[])] [(2,[]),(14,[]),(20,[70])] none (bodyOf Tryz.f212) (topQ prog [.cell 4 25] K) (startX [t0,t1]) [] w=S_parse_reader_dict t0 t1 w K:=by kernel_rfl
theorem S_parse_reader_dict_ok {t0 t1:Value}{w:World}{K:Ending→World→Prop}(h:S_parse_reader_dict t0 t1 w K):Calls prog 212 #[t0,t1] w K:=
 calls_of_wpX Tryz.func212 rfl rfl rfl rfl (Eq.mpr (S_parse_reader_dict_eq t0 t1 w K) h)
def S_parse_face (t0 r:Value)(w:World)(K:Ending→World→Prop):Prop:=
 DoX prog (mEq .eql 20 (.tmp 5) (.const .nilIface) r .nilIface) w (pk K) fun t7 w=>
 IfX t7 (K (.returned (.tuple #[])) w) (DoX prog (mTA r 20 198 true) w (pk K) fun t8 w=>
 DoX prog (mExt t8 1) w (pk K) fun t9 w=>
 DoX prog (mExt t8 0) w (pk K) fun t10 w=>
 IfX t9 (DoX prog (mNil t0) w (pk K) fun t13 w=>
 DoX prog (mStore 30 t13 t10) w (pk K) fun _ w=>
 K (.returned (.tuple #[])) w) (DoX prog (mPanic r) w (pk K) fun _ w=>
 K (.returned (.tuple #[])) w))
theorem S_parse_face_eq (t0 r:Value)(w:World)(K:Ending→World→Prop):wpX prog 14 [] [] none (sndOf (bodyOf Tryz.f157)) (topD prog [] K) (upd (startX [t0]) 5 r) [] w=S_parse_face t0 r w K:=by kernel_rfl
theorem S_parse_face_dok {t0:Value}{u:FrameMode}{w:World}{R:Ending→FrameMode→World→Prop}(h:S_parse_face t0 (recV u) w (fun e w=>R e (recM u) w)):CallsD prog 157 #[t0] u w R:=
 callsD_recover Tryz.func157 rfl rfl rfl rfl rfl rfl rfl rfl (Eq.mpr (S_parse_face_eq t0 (recV u) w _) h)
def S_parse_reader_read_p0 (x0:Value)(x1:Value)(K:Ending→World→Prop):=pd prog [.cell x0 25,.cell x1 30] K [{ target:=.fn (.func 157) #[],args:=#[x1] }]
def S_parse_reader_read (t0:Value)(w:World)(K:Ending→World→Prop):Prop:=
 DoX prog (mAlloc 25) w (pk K) fun t2 w=>
 DoX prog (mAlloc 30) w (pk K) fun t3 w=>
 CallX prog 159 #[t0] w (S_parse_reader_read_p0 t2 t3 K) fun t6 w=>
 CallX prog 158 #[t0,t6,(.int .i64 0)] w (S_parse_reader_read_p0 t2 t3 K) fun t7 w=>
 DoX prog (mStore 25 t2 t7) w (S_parse_reader_read_p0 t2 t3 K) fun _ w=>
 DoX prog (mStore 30 t3 (.int .i64 0)) w (S_parse_reader_read_p0 t2 t3 K) fun _ w=>
 Leave prog [.cell t2 25,.cell t3 30] K [{ target:=.fn (.func 157) #[],args:=#[t3] }] .returning w
theorem S_parse_reader_read_eq (t0:Value)(w:World)(K:Ending→World→Prop):wpX prog 8 [] [] none (bodyOf Tryz.f100) (topQ prog [.cell 2 25,.cell 3 30] K) (startX [t0]) [] w=S_parse_reader_read t0 w K:=by kernel_rfl
theorem S_parse_reader_read_ok {t0:Value}{w:World}{K:Ending→World→Prop}(h:S_parse_reader_read t0 w K):Calls prog 100 #[t0] w K:=
 calls_of_wpX Tryz.func100 rfl rfl rfl rfl (Eq.mpr (S_parse_reader_read_eq t0 w K) h)
def S_parse_Object (t0 t1:Value)(w:World)(K:Ending→World→Prop):Prop:=
 DoX prog (mAlloc 25) w (pk K) fun t4 w=>
 DoX prog (mBin .lss 3 t1 (.int .i64 0)) w (pk K) fun t11 w=>
 GDo t11 false (fun E=>E t1 w) w fun t13 w=>
 GDo t11 false (fun E=>E t0 w) w fun t14 w=>
 GDo t11 false (fun E=>DoX prog (mB .len #[9] 3 #[false] #[t14]) w (pk K) E) w fun t15 w=>
 GDo t11 false (fun E=>DoX prog (mBin .gtr 3 t13 t15) w (pk K) E) w fun t16 w=>
 DoX prog (mPick t11 (.bool true) t16) w (pk K) fun t17 w=>
 IfX t17 (DoX prog (mBuild 25 #[]) w (pk K) fun t18 w=>
 DoX prog (mStore 25 t4 t18) w (pk K) fun _ w=>
 RetX prog [.cell t4 25,.val (.int .i64 0),.val (.int .i64 1)] w K) (DoX prog (mBuild 130 #[(0,t0),(1,t1)]) w (pk K) fun t21 w=>
 DoX prog (mBox 130 t21) w (pk K) fun t22 w=>
 CallX prog 100 #[t22] w (pk K) fun t25 w=>
 DoX prog (mExt t25 0) w (pk K) fun t26 w=>
 DoX prog (mExt t25 1) w (pk K) fun t27 w=>
 DoX prog (mAlloc 25) w (pk K) fun t8 w=>
 DoX prog (mStore 25 t8 t26) w (pk K) fun _ w=>
 DoX prog (mEq .neq 30 (.tmp 28) (.const (.int .i64 0)) t27 (.int .i64 0)) w (pk K) fun t29 w=>
 IfX t29 (DoX prog (mBuild 25 #[]) w (pk K) fun t30 w=>
 DoX prog (mStore 25 t4 t30) w (pk K) fun _ w=>
 RetX prog [.cell t4 25,.val (.int .i64 0),.val t27] w K) (HeldX w (fun S1 w=>
 HDo prog S1 (mLoad 25 t8) fun t32=>
 HDo prog (fun _=>True) (mNil t22) fun t34=>
 HDo prog (fun _=>True) (mFA 130 t34 1) fun t35=>
 HDo prog S1 (mLoad 3 t35) fun t36=>
 DoX prog (mStore 25 t4 t32) w (pm1 (pm1 (pm1 (pm1 (pm1 (pm1 (pm1 (pk K)))))))) fun _ w=>
 S1 w∧(RetX prog [.cell t4 25,.val t36,.val (.int .i64 0)] w K))))
theorem S_parse_Object_eq (t0 t1:Value)(w:World)(K:Ending→World→Prop):wpX prog 37 [] [] none (bodyOf Tryz.f61) (topQ prog [.cell 4 25,.tmp 5,.tmp 6] K) (startX [t0,t1]) [] w=S_parse_Object t0 t1 w K:=by kernel_rfl
theorem S_parse_Object_ok {t0 t1:Value}{w:World}{K:Ending→World→Prop}(h:S_parse_Object t0 t1 w K):Calls prog 61 #[t0,t1] w K:=
 calls_of_wpX Tryz.func61 rfl rfl rfl rfl (Eq.mpr (S_parse_Object_eq t0 t1 w K) h)
end
section
open Eng Go.RowKit
 attribute [local congr] g_congr
section
variable {w:World}{PK:PKT}{K:VWP}{S:Nat→Prop}{w0:World}{L:List Ent}
theorem o_tkb (x:Lx.Tok)(ho:OwnS S w0 w L)(k:∀b w',OwnS S w0 w' (tokE b x::L)→K (.pointer (some ⟨b,0,none⟩)) w'):DoX prog (mBox 58 (tokV x)) w PK K:=
 o_new (fun b=>.pointer (some ⟨b,0,none⟩)) (tokC x) 58 (fun _=>by kernel_rfl) ho k
theorem tk_put (i:Nat){b:Nat}{x y:Lx.Tok}(ho:OwnS S w0 w L)(hi:L[i]?=some (tokE b x))(k:∀w',OwnS S w0 w' (L.set i (tokE b y))→K undef w') :
  DoX prog (mStore 58 (.pointer (some ⟨b,0,none⟩)) (tokV y)) w PK K:=o_put i ho hi (new:=tokC y) szTok (tokC_one y) rfl k
theorem tk_k (ho:OwnS S w0 w L)(i:Nat){b:Nat}{x:Lx.Tok}(hi:L[i]?=some (tokE b x)):DoX prog (mLoad 3 (.pointer (some ⟨b,0,none⟩))) w PK K=K (.int .i64 x.k) w:=l_cell nInt (ho.cell i hi 0 rfl)
theorem tk_a (ho:OwnS S w0 w L)(i:Nat){b:Nat}{x:Lx.Tok}(hi:L[i]?=some (tokE b x)):DoX prog (mLoad 3 (.pointer (some ⟨b,1,none⟩))) w PK K=K (.int .i64 x.a) w:=l_cell nInt (ho.cell i hi 1 rfl)
theorem tk_t (ho:OwnS S w0 w L)(i:Nat){b:Nat}{x:Lx.Tok}(hi:L[i]?=some (tokE b x)):DoX prog (mLoad 3 (.pointer (some ⟨b,2,none⟩))) w PK K=K (.int .i64 x.t) w:=l_cell nInt (ho.cell i hi 2 rfl)
theorem tk_n (ho:OwnS S w0 w L)(i:Nat){b:Nat}{x:Lx.Tok}(hi:L[i]?=some (tokE b x)):DoX prog (mLoad 2 (.pointer (some ⟨b,3,none⟩))) w PK K=K (.int .i64 x.n) w:=l_cell nI65 (ho.cell i hi 3 rfl)
theorem tk_s (ho:OwnS S w0 w L)(i:Nat){b:Nat}{x:Lx.Tok}(hi:L[i]?=some (tokE b x)):DoX prog (mLoad 9 (.pointer (some ⟨b,4,none⟩))) w PK K=K (.string ⟨x.s.toArray⟩) w:=l_cell nStr (ho.cell i hi 4 rfl)
theorem tk_v (ho:OwnS S w0 w L)(i:Nat){b:Nat}{x:Lx.Tok}(hi:L[i]?=some (tokE b x)):DoX prog (mLoad 58 (.pointer (some ⟨b,0,none⟩))) w PK K=K (tokV x) w:=l_at (ho.agg i hi aggTok)
theorem ft4:fOff prog 58 4=some 4:=by kernel_rfl
theorem tk_new {f:Nat}{args:Array Value}{r:Lx.Tok×Int}{PK1 PK2 PK3 PK4 PK5:PKT}{K:Value→VWP}(ho:OwnS S w0 w L)(h:Ret prog f args w (fun v w'=>v=tokR r∧Below w.heap.size w w'))
  (k:∀b w',OwnS S w0 w' (tokE b r.1::L)→K (.int .i64 r.2) (.pointer (some ⟨b,0,none⟩)) w') :
  CallX prog f args w PK1 fun t w=>DoX prog (mExt t 0) w PK2 fun u w=>DoX prog (mExt t 1) w PK3 fun v w=>DoX prog (mAlloc 58) w PK4 fun q w=>DoX prog (mStore 58 q u) w PK5 fun _ w=>K v q w:=by
 refine c_below ho h ?_;rintro v w1 rfl ho;rw[tokR,x_0,x_1];refine o_tok ho fun b w2 ho=>?_;exact tk_put 0 ho rfl fun w3 ho=>k b w3 ho
end
theorem pfirst_ret (t:Lx.Tok)(w:World)(h0:t.k≠0):Ret prog 205 #[tokV t] w (fun v w'=>v=.bool (Ps.begins t)∧Below w.heap.size w w'):=by
 refine ret_of fun K hK=>S_parse_begins_ok ?_;unfold S_parse_begins;refine o_tkb t (Own.start w) fun b w1 ho=>?_;have fin:∀{q:Bool},q=Ps.begins t→K (.returned (.bool q)) w1:=fun e=>hK _ _ ⟨by rw[e],ho.done⟩;by_cases h6:t.k=6
 ·by_cases h1:t.s=[91]
  ·simp only[rs,fa_t0,fa_t4',tk_k ho 0 rfl,tk_s ho 0 rfl,h6,h1,decide_true,g_un,show ¬(6:Int)=5 by decide,decide_false];exact fin (by simp[Ps.begins,h6,h1])
  ·simp only[rs,fa_t0,fa_t4',tk_k ho 0 rfl,tk_s ho 0 rfl,h6,decide_eq_false h1,decide_true,g_un,show ¬(6:Int)=5 by decide,decide_false];exact fin (by simp[Ps.begins,h6,h1])
 by_cases h5:t.k=5
 ·by_cases h1:t.s=Ps.tru
  ·have h1':t.s=[116,114,117,101]:=h1;simp only[rs,fa_t0,fa_t4',tk_k ho 0 rfl,tk_s ho 0 rfl,h5,h1',decide_true,decide_false,g_un];exact fin (by simp[Ps.begins,h5,h1])
  have h1':¬t.s=[116,114,117,101]:=h1;by_cases h2:t.s=Ps.fal
  ·have h2':t.s=[102,97,108,115,101]:=h2;simp only[rs,fa_t0,fa_t4',tk_k ho 0 rfl,tk_s ho 0 rfl,h5,h2',decide_true,decide_false,g_un,show ¬([102,97,108,115,101]:List UInt8)=[116,114,117,101] by decide];exact fin (by simp[Ps.begins,h5,h2])
  have h2':¬t.s=[102,97,108,115,101]:=h2;simp only[rs,fa_t0,fa_t4',tk_k ho 0 rfl,tk_s ho 0 rfl,h5,decide_eq_false h1',decide_eq_false h2',decide_true,decide_false,g_un];exact fin (by simp[Ps.begins,h5,h1,h2];first|exact Iff.rfl|exact decide_eq_decide.2 Iff.rfl)
 ·simp only[rs,fa_t0,fa_t4',tk_k ho 0 rfl,tk_s ho 0 rfl,h6,h5,decide_true,decide_false,g_un];exact fin (by simp[Ps.begins,h6,h5,h0])
theorem pword_ret (t:Lx.Tok)(k:Int)(s:List UInt8)(w:World):Ret prog 247 #[tokV t,.int .i64 k,.string ⟨s.toArray⟩] w (fun v w'=>v=.bool (decide (t.k=k)&&decide (t.s=s))∧Below w.heap.size w w'):=by
 refine ret_of fun K hK=>S_parse_word_ok ?_;unfold S_parse_word;refine o_tkb t (Own.start w) fun b w1 ho=>?_;by_cases h:t.k=k
 ·simp only[rs,fa_t0,fa_t4',tk_k ho 0 rfl,tk_s ho 0 rfl,decide_eq_true h,g_un];exact hK _ _ ⟨by rw[decide_eq_true h,Bool.true_and],ho.done⟩
 ·simp only[rs,fa_t0,fa_t4',tk_k ho 0 rfl,tk_s ho 0 rfl,decide_eq_false h,g_un];exact hK _ _ ⟨by rw[decide_eq_false h,Bool.false_and],ho.done⟩
end
section
open Eng Go.RowKit
theorem OwnS.sep {S:Nat→Prop}{w0 w:World}{L:List Ent}(ho:OwnS S w0 w L)(i j:Nat)(hij:i≠j){e f:Ent}(hi:L[i]?=some e)(hj:L[j]?=some f):∀k,e.blk k→¬f.blk k:=by
 obtain⟨hil,rfl⟩:=List.getElem?_eq_some_iff.1 hi;obtain⟨hjl,rfl⟩:=List.getElem?_eq_some_iff.1 hj;have hp:=List.pairwise_iff_getElem.1 ho.apart;intro k hk hk';rcases Nat.lt_or_ge i j with h|h
 ·exact hp i j hil hjl h k hk hk'
 ·exact hp j i hjl hil (by omega) k hk' hk
section
variable {w:World}{S:Nat→Prop}{w0:World}{L:List Ent}{PK:PKT}{K:VWP}
theorem o_obs1 (o:Ob){vk vc:Value}(hk:vk.oneCell'=true)(hc:vc.oneCell'=true)(ho:OwnS S w0 w L)(k:∀b w',OwnS S w0 w' (obE b o vk vc::L)→K (.slice (some ⟨b,0,none⟩) 1 1) w'):DoX prog (mBuildS 23 1 #[(0,obV o vk vc)]) w PK K:=by
 cases vk<;>first|(cases hk;done)|skip
 all_goals cases vc<;>first|(cases hc;done)|exact o_new (fun b=>.slice (some ⟨b,0,none⟩) 1 1) (obC o _ _) 25 (fun _=>by kernel_rfl) ho k
theorem o_strb1 (s:List UInt8)(ho:OwnS S w0 w L)(k:∀b w',OwnS S w0 w' (.cells b [.string ⟨s.toArray⟩] 9::L)→K (.slice (some ⟨b,0,none⟩) 1 1) w'):DoX prog (mBuildS 22 1 #[(0,.string ⟨s.toArray⟩)]) w PK K:=
 o_new (fun b=>.slice (some ⟨b,0,none⟩) 1 1) [.string ⟨s.toArray⟩] 9 (fun _=>by kernel_rfl) ho k
end
theorem strsV_take (l:List (List UInt8))(i:Nat):(strsV l).take (i*1)=strsV (l.take i):=by rw[Nat.mul_one];simp[strsV]
theorem strsV_drop (l:List (List UInt8))(i:Nat):(strsV l).drop (i*1)=strsV (l.drop i):=by rw[Nat.mul_one];simp[strsV]
theorem strsV_app (a b:List (List UInt8)):strsV (a++b)=strsV a++strsV b:=by simp[strsV]
theorem ovs_take {A:Nat→Prop}{w:World}:∀{os:List Ob} {cs:List Value} (i:Nat),OVs A w cs os→OVs A w (cs.take (i*6)) (os.take i)
|_,_,0,_=>by rw[Nat.zero_mul,List.take_zero,List.take_zero];exact OVs.nil
|[],cs,i+1,h=>by rw[OVs] at h;subst h;rw[List.take_nil,List.take_nil];exact OVs.nil
|o::os,cs,i+1,h=>by
  rw[OVs] at h;obtain⟨a,rest,rfl,hl,h1,h2⟩:=h;have e:(a++rest).take ((i+1)*6)=a++rest.take (i*6):=by
   rw[List.take_append,List.take_of_length_le (by omega)]
   congr 2
   omega
  rw[e,List.take_succ_cons,OVs];exact⟨a,_,rfl,hl,h1,ovs_take i h2⟩
theorem ovs_drop {A:Nat→Prop}{w:World}:∀{os:List Ob} {cs:List Value} (i:Nat),OVs A w cs os→OVs A w (cs.drop (i*6)) (os.drop i)
|_,_,0,h=>by rw[Nat.zero_mul,List.drop_zero,List.drop_zero];exact h
|[],cs,i+1,h=>by rw[OVs] at h;subst h;rw[List.drop_nil,List.drop_nil];exact OVs.nil
|o::os,cs,i+1,h=>by
  rw[OVs] at h;obtain⟨a,rest,rfl,hl,h1,h2⟩:=h;have e:(a++rest).drop ((i+1)*6)=rest.drop (i*6):=by
   rw[List.drop_append,List.drop_eq_nil_of_le (by omega),List.nil_append]
   congr 1
   omega
  rw[e,List.drop_succ_cons];exact ovs_drop i h2
theorem with_ret (o x:Ob)(v u:Value)(key:List UInt8)(M:Mem)(w:World)(hw:o.wt≤10000000000)(hM:M.has w)(hv:OV M.A M.w v o)(hu:OV M.A M.w u x)(hr:Vl.Rise o.keys)(hlen:o.keys.length=o.kids.length) :
  RetM prog 88 #[v,.string ⟨key.toArray⟩,u] M w (fun r N=>OV N.A N.w r (Vl.put o key x)):=by
 obtain⟨vk,vc,cs,rfl,ha⟩:=hv.open;obtain⟨xk,xc,xcs,rfl,hx⟩:=hu.open;have hww:Ob.wts o.kids≤10000000000:=by cases o;rw[Ob.wt] at hw;simp only[Ob.kids];omega
 have hkt:Pl.tot o.keys≤10000000000:=by cases o;rw[Ob.wt] at hw;simp only[Ob.keys];omega
 have hkl:=Pl.length_tot o.keys;have hlk:=Ob.len_wts o.kids;refine retM_of hM fun K hK=>S_value_with_ok ?_;unfold S_value_with;refine o_obb o ha.keys.one ha.kids.one (OwnS.memS hM) fun b3 w1 ho=>?_;refine o_obb x hx.keys.one hx.kids.one ho fun b5 w2 ho=>?_;refine o_oba ho fun b6 w3 ho=>?_;rw[fa_o4,ob_keys ho 2 rfl];refine c_eq (bsearch_ret vk o.keys key w3 (ha.keys.now (ho.hasM 3 rfl)) hr (by omega)) ?_;simp only[ex];rw[fa_o4,ob_keys ho 2 rfl];refine c_ret (sclone_s_ret vk _ _ w3 (ha.keys.now (ho.hasM 3 rfl)) strsV_one5 (by omega)) fun vk1 w4 hnew=>?_;have ho:=ho.join hnew;have ho:OwnS M.A w w4 [.urow 9 1 vk1 o.keys.length (strsV o.keys),obE b6 ob0 nilS nilS,obE b5 x xk xc,obE b3 o vk vc,.mem M]:=ho;rw[fa_o4];refine o_store 3 ho rfl (by kernel_rfl) (urow_one (ho.at_ 0 rfl)) (show 0+4 < 6 by omega) fun w5 ho=>?_;have ho:OwnS M.A w w5 [.urow 9 1 vk1 o.keys.length (strsV o.keys),obE b6 ob0 nilS nilS,obE b5 x xk xc,obE b3 o vk1 vc,.mem M]:=ho;rw[fa_o5,ob_kids ho 3 rfl];refine c_ret (sclone_o_ret vc _ _ w5 (ha.kids.now (ho.hasM 4 rfl)) (ovs_one ha.all) (by omega)) fun vc1 w6 hnew=>?_;have ho:=ho.join hnew;have ho:OwnS M.A w w6 [.urow 25 6 vc1 o.kids.length cs,.urow 9 1 vk1 o.keys.length (strsV o.keys),obE b6 ob0 nilS nilS,obE b5 x xk xc,obE b3 o vk1 vc,.mem M]:=ho;rw[fa_o5];refine o_store 4 ho rfl (by kernel_rfl) (urow_one (ho.at_ 0 rfl)) (show 0+5 < 6 by omega) fun w7 ho=>?_;have ho:OwnS M.A w w7 [.urow 25 6 vc1 o.kids.length cs,.urow 9 1 vk1 o.keys.length (strsV o.keys),obE b6 ob0 nilS nilS,obE b5 x xk xc,obE b3 o vk1 vc1,.mem M]:=ho;have hple:=Vl.place_le o.keys key;refine join fun J hJ=>?_;have fin:∀(W:World) (kv cv:Value) (ks:List (List UInt8)) (os:List Ob) (ds:List Value),OwnS M.A w W [.urow 25 6 cv os.length ds,.urow 9 1 kv ks.length (strsV ks),obE b6 ob0 nilS nilS,obE b5 x xk xc,obE b3 o kv cv,.mem M] →
   OVs M.A M.w ds os→Vl.put o key x=.mk o.k o.n o.g o.s ks os→J [] W:=by
  intro W kv cv ks os ds ho hall hput;refine hJ _ _ fun _=>?_;unfold S_value_with_0;have hk1:=urow_one (ho.at_ 1 rfl);have hc1:=urow_one (ho.at_ 0 rfl);obtain⟨N,hle,hrow,ho⟩:=OwnS.freezeU (L:=[.urow 9 1 kv ks.length (strsV ks),obE b6 ob0 nilS nilS,obE b5 x xk xc,obE b3 o kv cv,.mem M]) ho 4 rfl;obtain⟨N2,hle2,hrow2,ho⟩:=OwnS.freezeU (L:=[obE b6 ob0 nilS nilS,obE b5 x xk xc,obE b3 o kv cv,.mem N]) ho 3 rfl;have ho:OwnS M.A w W [obE b6 ob0 nilS nilS,obE b5 x xk xc,obE b3 o kv cv,.mem N2]:=ho;rw[ob_v ho 2 rfl];refine ob_put 0 hk1 hc1 ho rfl fun w8 ho=>?_;refine ret_v1 (rv_cell (ho.agg 0 rfl aggOb)) (hK _ _ N2 _ 3 ho rfl (hle.trans hle2) ?_);rw[hput];exact ObAt.ov (o:=.mk o.k o.n o.g o.s ks os) ⟨hrow2,hrow.le hle2,hall.le (hle.trans hle2)⟩
 cases hh:Vl.hit o.keys key with
|true=>
  simp only[i_t];have hi:o.keys[Vl.place o.keys key]?=some key:=of_decide_eq_true hh;have hlt:Vl.place o.keys key < o.keys.length:=(List.getElem?_eq_some_iff.1 hi).1;have hg:o.keys[Vl.place o.keys key]=key:=(List.getElem?_eq_some_iff.1 hi).2;rw[fa_o5,ob_kids ho 4 rfl,ob_v ho 3 rfl];obtain⟨g,cap,rfl⟩:=urow_open (ho.at_ 0 rfl) (by omega);refine do_eq (run_ia Tryz.underlying23 szOb (by omega) (by omega)) |>.mpr ?_;rw[Int.toNat_natCast,Nat.zero_add];have hcl:cs.length=o.kids.length*6:=ha.kids.1.1;refine o_storeU 0 ho rfl (u:=obV x xk xc) (new:=obC x xk xc) rfl szOb (obC_one _ hx.keys.one hx.kids.one) (by show _+6≤_;omega) fun w8 ho=>?_;have e1:o.keys.take (Vl.place o.keys key)++key::o.keys.drop (Vl.place o.keys key+1)=o.keys:=by
   conv=>rhs;rw[←List.take_append_drop (Vl.place o.keys key) o.keys,List.drop_eq_getElem_cons hlt,hg]
  refine fin w8 vk1 (.slice (some ⟨g,0,none⟩) o.kids.length cap) o.keys (o.kids.take (Vl.place o.keys key)++x::o.kids.drop (Vl.place o.keys key+1)) (cs.take (Vl.place o.keys key*6)++obC x xk xc++cs.drop (Vl.place o.keys key*6+6)) ?_ ?_ ?_
  ·have el:(o.kids.take (Vl.place o.keys key)++x::o.kids.drop (Vl.place o.keys key+1)).length=o.kids.length:=by simp;omega
   rw[el];exact ho
  ·have:=ovs_app (ovs_take (Vl.place o.keys key) ha.all) (ovs_app (ovs_1 hu) (ovs_drop (Vl.place o.keys key+1) ha.all));rw[show (Vl.place o.keys key+1)*6=Vl.place o.keys key*6+6 by omega,←List.append_assoc] at this;exact this
  ·unfold Vl.put;rw[hh];simp only[if_true];rw[e1]
|false=>
  simp only[i_f];rw[fa_o4,ob_keys ho 4 rfl];refine o_strb1 key ho fun nb w8 ho=>?_;refine c_turn 2 ho rfl (sinsert_s_ret vk1 o.keys.length (strsV o.keys) (Vl.place o.keys key) nb [.string ⟨key.toArray⟩] w8 (ho.at_ 2 rfl) (ho.at_ 0 rfl) rfl (fun h=>(OwnS.sep ho 2 0 (by omega) rfl rfl) nb h rfl) strsV_one5 (by simp[Value.oneCell']) hple (by omega)) ?_;rintro kv e' w9 rfl ho;have ho:OwnS M.A w w9 [.cells nb [.string ⟨key.toArray⟩] 9,.urow 25 6 vc1 o.kids.length cs,.urow 9 1 kv (o.keys.length+1) ((strsV o.keys).take (Vl.place o.keys key*1)++[.string ⟨key.toArray⟩]++(strsV o.keys).drop (Vl.place o.keys key*1)),obE b6 ob0 nilS nilS,obE b5 x xk xc,obE b3 o vk1 vc1,.mem M]:=ho;rw[strsV_take,strsV_drop] at ho;have ho:=ho.tail;rw[fa_o4];refine o_store 4 ho rfl (by kernel_rfl) (urow_one (ho.at_ 1 rfl)) (show 0+4 < 6 by omega) fun w10 ho=>?_;have ho:OwnS M.A w w10 [.urow 25 6 vc1 o.kids.length cs,.urow 9 1 kv (o.keys.length+1) (strsV (o.keys.take (Vl.place o.keys key))++[.string ⟨key.toArray⟩]++strsV (o.keys.drop (Vl.place o.keys key))),obE b6 ob0 nilS nilS,obE b5 x xk xc,obE b3 o kv vc1,.mem M]:=ho;rw[fa_o5,ob_kids ho 4 rfl,ob_v ho 3 rfl];refine o_obs1 x hx.keys.one hx.kids.one ho fun nb2 w11 ho=>?_;refine c_turn 1 ho rfl (sinsert_o_ret vc1 o.kids.length cs (Vl.place o.keys key) nb2 (obC x xk xc) w11 (ho.at_ 1 rfl) (ho.at_ 0 rfl) rfl (fun h=>(OwnS.sep ho 1 0 (by omega) rfl rfl) nb2 h rfl) (ovs_one ha.all) (obC_one _ hx.keys.one hx.kids.one) (by omega) (by omega)) ?_;rintro cv e' w12 rfl ho;have ho:OwnS M.A w w12 [.cells nb2 (obC x xk xc) 25,.urow 25 6 cv (o.kids.length+1) (cs.take (Vl.place o.keys key*6)++obC x xk xc++cs.drop (Vl.place o.keys key*6)),.urow 9 1 kv (o.keys.length+1) (strsV (o.keys.take (Vl.place o.keys key))++[.string ⟨key.toArray⟩]++strsV (o.keys.drop (Vl.place o.keys key))),obE b6 ob0 nilS nilS,obE b5 x xk xc,obE b3 o kv vc1,.mem M]:=ho;have ho:=ho.tail;rw[fa_o5];refine o_store 4 ho rfl (by kernel_rfl) (urow_one (ho.at_ 0 rfl)) (show 0+5 < 6 by omega) fun w13 ho=>?_;refine fin w13 kv cv (o.keys.take (Vl.place o.keys key)++key::o.keys.drop (Vl.place o.keys key)) (o.kids.take (Vl.place o.keys key)++x::o.kids.drop (Vl.place o.keys key)) (cs.take (Vl.place o.keys key*6)++obC x xk xc++cs.drop (Vl.place o.keys key*6)) ?_ ?_ ?_
  ·have el:(o.kids.take (Vl.place o.keys key)++x::o.kids.drop (Vl.place o.keys key)).length=o.kids.length+1:=by simp;omega
   have el2:(o.keys.take (Vl.place o.keys key)++key::o.keys.drop (Vl.place o.keys key)).length=o.keys.length+1:=by simp;omega
   have es:strsV (o.keys.take (Vl.place o.keys key)++key::o.keys.drop (Vl.place o.keys key))=strsV (o.keys.take (Vl.place o.keys key))++[.string ⟨key.toArray⟩]++strsV (o.keys.drop (Vl.place o.keys key)):=by
    rw[strsV_app];simp[strsV,strV]
   rw[el,el2,es];exact ho
  ·have:=ovs_app (ovs_take (Vl.place o.keys key) ha.all) (ovs_app (ovs_1 hu) (ovs_drop (Vl.place o.keys key) ha.all));rw[←List.append_assoc] at this;exact this
  ·unfold Vl.put;rw[hh];simp
end
end Go.Proofs.YtkejpieaafeblaaGreatDoor
