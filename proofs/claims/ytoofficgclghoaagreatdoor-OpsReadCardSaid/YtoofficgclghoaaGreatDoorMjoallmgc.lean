/- Texts that go together: ObD EngW ObE ObF SVal ObG ObH ObI Plain07 SRef07 SRef04 PlR PlS Plain03 Plain03B Plain03C Plain03D Plain03E Plain04B Plain03F Plain03G Plain17 Plain17B Plain55 SOct LxA SLex LxB LxC LxD LxE LxF LxG LxH LxI. -/
import Derived.Sort.Walk0
import Derived.Test.YtoofficgclghoaaGreatDoorRows
import Derived.Lib.IndexMore
import Derived.Lib.LastIndexLaws
import Derived.Test.YtoofficgclghoaaGreatDoorMlengaipi
import Derived.Test.YtoofficgclghoaaGreatDoorMdldongdl
set_option linter.defProp false
set_option linter.unusedSimpArgs false
set_option linter.unusedVariables false
set_option maxRecDepth 20000
open Go.Proofs.Tryz (prog)
namespace Go.Proofs.YtoofficgclghoaaGreatDoor
section
open Eng Go.RowKit
 attribute [local congr] iA
theorem M1 {T:TypeId}{xo yo:Operand}{s:List UInt8}{w:World}{PK:PKT}{K:VWP}:DoX prog (mEq .eql T xo yo (.string ⟨s.toArray⟩) (.string ⟨#[]⟩)) w PK K=K (.bool (decide (s=[]))) w:=Ke (b:=[])
theorem len0 {α:Type}(l:List α):decide (l.length=0)=decide (l=[]):=by cases l<;>simp
theorem VY {α:Type}(l:List α):decide (((l.length:Nat):Int)=0)=decide (l=[]):=by cases l<;>simp;omega
theorem Wa {α:Type}(l:List α):decide (((l.length:Nat):Int)=0)=decide (l.length=0):=by rw[decide_eq_decide];omega
end
section
namespace Eng
open Go.RowKit
theorem KM {c:Bool}{x:Value}:sel c (sel c x)=sel c x:=by cases c<;>rfl
theorem Ui {v:Value}{want:Bool}{E:(VWP)→Prop}{w:World}{K:VWP}(h:jM v want=false):GDo v want E w K=K undef w:=by
 refine propext ⟨fun x=>?_,fun x=>⟨?_⟩⟩
 ·have:=x.out;rw[h] at this;exact this
 ·rw[h];exact x
theorem PH:∀a b:List UInt8,(Op.bytesLess a b||a==b)=!(Op.bytesLess b a):=by
 intro a b;rw[bytesLess_eq,bytesLess_eq,Bool.eq_iff_iff];simp only[Bool.or_eq_true,decide_eq_true_eq,beq_iff_eq,Bool.not_eq_true',decide_eq_false_iff_not];constructor
 ·rintro (h|rfl)
  ·exact fun h'=>List.lt_asymm h h'
  ·exact List.lt_irrefl _
 ·intro h;by_cases h1:a < b
  ·exact .inl h1
  ·exact .inr (List.le_antisymm (List.not_lt.1 h) (List.not_lt.1 h1))
theorem HP {P:Program}{b y:Bool}{w:World}{PK:PKT}{K:VWP}:DoX P (aL (.bool (!b)) (.bool true) (sel b (.bool y))) w PK K=K (.bool (!b||y)) w:=by
 rw[Hw];cases b<;>rfl
end Eng
end
section
open Eng Go.RowKit
 attribute [local congr] iA
theorem ObAt.in_ {w0 w:World}{L:List Ent}{o:Ob}{vk vc:Value}{cs:List Value}(h:ObAt (InW w0) w0 o vk vc cs)(ho:Own w0 w L):ObAt (InW w) w o vk vc cs:=by
 have hk:=h.own ho;exact⟨⟨hk.keys.1,(fun p l c e hn=>Nat.lt_of_lt_of_le (hk.keys.2.1 p l c e hn) ho.size),hk.keys.2.2⟩,⟨hk.kids.1,(fun p l c e hn=>Nat.lt_of_lt_of_le (hk.kids.2.1 p l c e hn) ho.size),hk.kids.2.2⟩,OVs.mono (fun _ hb=>Nat.lt_of_lt_of_le hb ho.size) _ _ hk.all⟩
theorem AE {p:Nat→Bool}(n:Nat):(List.range (n+1)).all p=((List.range n).all p&&p n):=by
 rw[List.range_succ,List.all_append];simp
theorem H5 {p:Nat→Bool}{n m:Nat}(hp:p n=false)(hn:n < m):(List.range m).all p=false:=by
 rw[←Bool.not_eq_true];intro h;have:=List.all_eq_true.1 h n (List.mem_range.2 hn);rw[hp] at this;cases this
theorem Qg {A:Nat→Prop}{w:World}{vc:Value}{os:List Ob}{cs:List Value}(hs:Sl w vc 6 os.length cs)(hall:OVs A w cs os){i:Nat}(hi:i < os.length) :
  ∃b off,(∀{PK:PKT} {K:VWP},DoX prog (mIA 40 vc (.int .i64 (i:Int))) w PK K=K (.pointer (some ⟨b,off,none⟩)) w)∧w.cell? ⟨b,off,none⟩=some (.int .i64 os[i].k):=by
 obtain⟨b,off,cap,rfl,hc⟩:=gA hs (by omega);obtain⟨a,hl,hov,hget⟩:=OVs.get os cs i hi hall;refine⟨b,off+i*6,?_,?_⟩
 ·intro PK K;have:=nM (P:=prog) (T:=40) (b:=b) (off:=off) (cap:=cap) (n:=os.length) (k:=.i64) (i:=(i:Int)) (w:=w) Tryz.underlying40 szOb (by omega) (by omega);rw[Int.toNat_natCast] at this;exact aT this
 ·obtain⟨vk,vc',cs',hv,_⟩:=hov.open;have e:a=obC os[i] vk vc':=by
   injection hv with hv
   have:=congrArg Array.toList hv;simpa using this
  have:=hc (i*6+0) _ (hget 0 (.int .i64 os[i].k) (by rw[e];rfl));simpa using this
end
section
open Eng Go.RowKit
 attribute [local congr] iA
theorem OwnS.Wq {w0 w2 w4:World}{L2 L4:List Ent}(h2:Own w0 w2 L2)(h4:Own w0 w4 L4):Kept (InW w0) w2 w4:=fun b hb=>(h4.done.block b hb).trans (h2.done.block b hb).symm
theorem ObAt.later {w0 w2 w4:World}{L2 L4:List Ent}{o:Ob}{vk vc:Value}{cs:List Value}(h:ObAt (InW w0) w2 o vk vc cs)(h2:Own w0 w2 L2)(h4:Own w0 w4 L4):ObAt (InW w4) w4 o vk vc cs:=by
 have hk:=h.kept (OwnS.Wq h2 h4);exact⟨⟨hk.keys.1,(fun p l c e hn=>Nat.lt_of_lt_of_le (hk.keys.2.1 p l c e hn) h4.size),hk.keys.2.2⟩,⟨hk.kids.1,(fun p l c e hn=>Nat.lt_of_lt_of_le (hk.kids.2.1 p l c e hn) h4.size),hk.kids.2.2⟩,OVs.mono (fun _ hb=>Nat.lt_of_lt_of_le hb h4.size) _ _ hk.all⟩
theorem OU:∀{l:List Ob} {o:Ob},o∈l→o.wt≤Ob.wts l
|a::l,o,h=>by
  rw[Ob.wts];rcases List.mem_cons.1 h with rfl|h
  ·omega
  ·have:=OU h;omega
theorem Ob.LU (o:Ob):o.wt=6+o.s.length+Pl.tot o.keys+Ob.wts o.kids:=by cases o;rw[Ob.wt];rfl
theorem Ob.zE (o:Ob):6≤o.wt:=by rw[o.LU];omega
theorem CN:∀l:List Ob,l.length*6≤Ob.wts l
|[]=>by simp
|a::l=>by
  have:=CN l;have:=a.zE;rw[Ob.wts,List.length_cons];omega
theorem AG {o:Ob}{i:Nat}(hi:i < o.kids.length):o.kids[i].wt < o.wt:=by
 have:=OU (List.getElem_mem hi);rw[o.LU];omega
theorem LP (d:Nat)(l:List Ob)(i:Nat)(hi:i < l.length):Vl.pS d (l.drop i)=if Vl.check d l[i]≠0 then Vl.check d l[i] else Vl.pS d (l.drop (i+1)):=by
 rw[List.drop_eq_getElem_cons hi,Vl.pS]
theorem Pa {o:Ob}:o.keys.length≤o.wt:=by
 have h:∀l:List (List UInt8),l.length≤Pl.tot l:=by
  intro l
  induction l with
 |nil=>simp
 |cons a l ih=>simp only[Pl.tot,List.map_cons,List.sum_cons,List.length_cons] at ih ⊢;omega
 have:=h o.keys;rw[o.LU];omega
theorem Et {o:Ob}:o.kids.length≤o.wt:=by
 have:=CN o.kids;rw[o.LU];omega
theorem TS {d:Nat}{o:Ob}(h:Vl.why d o≠0):Vl.check d o=Vl.why d o:=by rw[Vl.Bo,if_pos h]
end
section
open Eng
def fZ (t0 t1 t2:Value)(w:World)(K:Ending→World→Prop):Prop:=
 DoX prog (mBin .leq 2 t1 t0) w (pk K) fun t9 w=>
 GDo t9 true (fun E=>E t0 w) w fun t11 w=>
 GDo t9 true (fun E=>E t2 w) w fun t12 w=>
 GDo t9 true (fun E=>DoX prog (mBin .leq 2 t11 t12) w (pk K) E) w fun t13 w=>
 DoX prog (aL t9 t13 (.bool false)) w (pk K) fun t14 w=>
 K (.returned t14) w
theorem tZ (t0 t1 t2:Value)(w:World)(K:Ending→World→Prop):wpX prog 15 [] [] none (aK Tryz.f57) (topQ prog [.tmp 6] K) (aJ [t0,t1,t2]) [] w=fZ t0 t1 t2 w K:=by kernel_rfl
theorem tV {t0 t1 t2:Value}{w:World}{K:Ending→World→Prop}(h:fZ t0 t1 t2 w K):Calls prog 57 #[t0,t1,t2] w K:=
 aA Tryz.func57 rfl rfl rfl rfl (Eq.mpr (tZ t0 t1 t2 w K) h)
def jP (t0 t1 t2:Value)(w:World)(K:Ending→World→Prop):Prop:=
 DoX prog (mBin .leq 3 t1 t0) w (pk K) fun t9 w=>
 GDo t9 true (fun E=>E t0 w) w fun t11 w=>
 GDo t9 true (fun E=>E t2 w) w fun t12 w=>
 GDo t9 true (fun E=>DoX prog (mBin .leq 3 t11 t12) w (pk K) E) w fun t13 w=>
 DoX prog (aL t9 t13 (.bool false)) w (pk K) fun t14 w=>
 K (.returned t14) w
theorem zA (t0 t1 t2:Value)(w:World)(K:Ending→World→Prop):wpX prog 15 [] [] none (aK Tryz.f155) (topQ prog [.tmp 6] K) (aJ [t0,t1,t2]) [] w=jP t0 t1 t2 w K:=by kernel_rfl
theorem yD {t0 t1 t2:Value}{w:World}{K:Ending→World→Prop}(h:jP t0 t1 t2 w K):Calls prog 155 #[t0,t1,t2] w K:=
 aA Tryz.func155 rfl rfl rfl rfl (Eq.mpr (zA t0 t1 t2 w K) h)
def Bc (t0:Value)(w:World)(K:Ending→World→Prop):Prop:=
 DoX prog (mB .len #[9] 3 #[false] #[t0]) w (pk K) fun t4 w=>
 DoX prog (mBin .leq 3 t4 (.int .i64 127)) w (pk K) fun t5 w=>
 GDo t5 true (fun E=>E t0 w) w fun t7 w=>
 GDo t5 true (fun E=>CallX prog 92 #[t7,(.int .u8 0)] w (pk K) E) w fun t8 w=>
 GDo t5 true (fun E=>DoX prog (mBin .lss 3 t8 (.int .i64 0)) w (pk K) E) w fun t9 w=>
 DoX prog (aL t5 t9 (.bool false)) w (pk K) fun t10 w=>
 K (.returned t10) w
theorem Gw (t0:Value)(w:World)(K:Ending→World→Prop):wpX prog 11 [] [] none (aK Tryz.f126) (topQ prog [.tmp 2] K) (aJ [t0]) [] w=Bc t0 w K:=by kernel_rfl
theorem GA {t0:Value}{w:World}{K:Ending→World→Prop}(h:Bc t0 w K):Calls prog 126 #[t0] w K:=
 aA Tryz.func126 rfl rfl rfl rfl (Eq.mpr (Gw t0 w K) h)
def uS (t1 t13 t14 t15:Value)(w:World)(N1:List Value→World→Prop)(K:Ending→World→Prop):Prop:=
 DoX prog (mBin .lss 3 t15 t14) w (pk K) fun t16 w=>
 IfX t16 (DoX prog (mIA 39 t13 t15) w (pk K) fun t18 w=>
 DoX prog (aB 9 t18) w (pk K) fun t19 w=>
 CallX prog 126 #[t19] w (pk K) fun t21 w=>
 DoX prog (mUn .not t21) w (pk K) fun t22 w=>
 GDo t22 false (fun E=>E t15 w) w fun t24 w=>
 GDo t22 false (fun E=>DoX prog (mBin .gtr 3 t24 (.int .i64 0)) w (pk K) E) w fun t25 w=>
 GDo t22 false (fun E=>E t25 w) w fun t26 w=>
 GDo t26 true (fun E=>DoX prog (mFA 42 t1 4) w (pk K) E) w fun t27 w=>
 GDo t26 true (fun E=>DoX prog (aB 39 t27) w (pk K) E) w fun t28 w=>
 GDo t26 true (fun E=>E t15 w) w fun t29 w=>
 GDo t26 true (fun E=>DoX prog (mBin .sub 3 t29 (.int .i64 1)) w (pk K) E) w fun t30 w=>
 GDo t26 true (fun E=>DoX prog (mIA 39 t28 t30) w (pk K) E) w fun t31 w=>
 GDo t26 true (fun E=>DoX prog (aB 9 t31) w (pk K) E) w fun t32 w=>
 GDo t26 true (fun E=>E t19 w) w fun t33 w=>
 GDo t26 true (fun E=>DoX prog (mBin .geq 9 t32 t33) w (pk K) E) w fun t34 w=>
 GDo t22 false (fun E=>DoX prog (aL t26 t34 (.bool false)) w (pk K) E) w fun t35 w=>
 DoX prog (aL t22 (.bool true) t35) w (pk K) fun t36 w=>
 GDo t36 false (fun E=>DoX prog (mFA 42 t1 0) w (pk K) E) w fun t38 w=>
 GDo t36 false (fun E=>DoX prog (aB 3 t38) w (pk K) E) w fun t39 w=>
 GDo t36 false (fun E=>DoX prog (mEq .eql 3 (.tmp 39) (.const (.int .i64 9)) t39 (.int .i64 9)) w (pk K) E) w fun t40 w=>
 GDo t36 false (fun E=>E t40 w) w fun t41 w=>
 GDo t41 true (fun E=>E t19 w) w fun t42 w=>
 GDo t41 true (fun E=>DoX prog (mEq .eql 9 (.tmp 42) (.const (.string ⟨#[76,101,110,103,116,104]⟩)) t42 (.string ⟨#[76,101,110,103,116,104]⟩)) w (pk K) E) w fun t43 w=>
 GDo t36 false (fun E=>DoX prog (aL t41 t43 (.bool false)) w (pk K) E) w fun t44 w=>
 DoX prog (aL t36 (.bool true) t44) w (pk K) fun t45 w=>
 GDo t45 false (fun E=>DoX prog (mFA 42 t1 5) w (pk K) E) w fun t47 w=>
 GDo t45 false (fun E=>DoX prog (aB 40 t47) w (pk K) E) w fun t48 w=>
 GDo t45 false (fun E=>E t15 w) w fun t49 w=>
 GDo t45 false (fun E=>DoX prog (mIA 40 t48 t49) w (pk K) E) w fun t50 w=>
 GDo t45 false (fun E=>DoX prog (mFA 42 t50 0) w (pk K) E) w fun t51 w=>
 GDo t45 false (fun E=>DoX prog (aB 3 t51) w (pk K) E) w fun t52 w=>
 GDo t45 false (fun E=>DoX prog (mEq .eql 3 (.tmp 52) (.const (.int .i64 0)) t52 (.int .i64 0)) w (pk K) E) w fun t53 w=>
 DoX prog (aL t45 (.bool true) t53) w (pk K) fun t54 w=>
 IfX t54 (K (.returned (.bool false)) w) (DoX prog (mBin .add 3 t15 (.int .i64 1)) w (pk K) fun t55 w=>
 N1 [t55] w)) (K (.returned (.bool true)) w)
def qG (t0:Value)(w:World)(K:Ending→World→Prop):Prop:=
 DoX prog (mBox 42 t0) w (pk K) fun t1 w=>
 DoX prog (mFA 42 t1 4) w (pk K) fun t5 w=>
 DoX prog (aB 39 t5) w (pk K) fun t6 w=>
 DoX prog (mB .len #[39] 3 #[false] #[t6]) w (pk K) fun t7 w=>
 DoX prog (mFA 42 t1 5) w (pk K) fun t8 w=>
 DoX prog (aB 40 t8) w (pk K) fun t9 w=>
 DoX prog (mB .len #[40] 3 #[false] #[t9]) w (pk K) fun t10 w=>
 DoX prog (mEq .neq 3 (.tmp 7) (.tmp 10) t7 t10) w (pk K) fun t11 w=>
 IfX t11 (K (.returned (.bool false)) w) (DoX prog (mFA 42 t1 4) w (pk K) fun t12 w=>
 DoX prog (aB 39 t12) w (pk K) fun t13 w=>
 DoX prog (mB .len #[39] 3 #[false] #[t13]) w (pk K) fun t14 w=>
 LoopX [(.int .i64 0)] w (fun vs1 w N1=>∀_:Sg,uS t1 t13 t14 (vs1.getD 0 undef) w N1 K))
theorem CD (t0:Value)(w:World)(K:Ending→World→Prop):wpX prog 56 [] [(4,[15])] none (aK Tryz.f127) (topQ prog [.tmp 2] K) (aJ [t0]) [] w=qG t0 w K:=by kernel_rfl
theorem Dm {t0:Value}{w:World}{K:Ending→World→Prop}(h:qG t0 w K):Calls prog 127 #[t0] w K:=
 aA Tryz.func127 rfl rfl rfl rfl (Eq.mpr (CD t0 w K) h)
def yY (t0:Value)(w:World)(K:Ending→World→Prop):Prop:=
 DoX prog (mBox 42 t0) w (pk K) fun t1 w=>
 DoX prog (mFA 42 t1 0) w (pk K) fun t3 w=>
 DoX prog (aB 3 t3) w (pk K) fun t4 w=>
 DoX prog (mEq .eql 3 (.tmp 4) (.const (.int .i64 1)) t4 (.int .i64 1)) w (pk K) fun t6 w=>
 IfX t6 (DoX prog (mFA 42 t1 1) w (pk K) fun t7 w=>
 DoX prog (aB 2 t7) w (pk K) fun t8 w=>
 CallX prog 57 #[t8,(.int .i64 0),(.int .i64 1)] w (pk K) fun t9 w=>
 K (.returned t9) w) (DoX prog (mEq .eql 3 (.tmp 4) (.const (.int .i64 2)) t4 (.int .i64 2)) w (pk K) fun t11 w=>
 IfX t11 (DoX prog (mFA 42 t1 1) w (pk K) fun t12 w=>
 DoX prog (aB 2 t12) w (pk K) fun t13 w=>
 CallX prog 57 #[t13,(.int .i64 (-2147483647)),(.int .i64 2147483647)] w (pk K) fun t14 w=>
 K (.returned t14) w) (DoX prog (mEq .eql 3 (.tmp 4) (.const (.int .i64 3)) t4 (.int .i64 3)) w (pk K) fun t16 w=>
 IfX t16 (DoX prog (mFA 42 t1 1) w (pk K) fun t17 w=>
 DoX prog (aB 2 t17) w (pk K) fun t18 w=>
 CallX prog 57 #[t18,(.int .i64 (-1073741824)),(.int .i64 1073741824)] w (pk K) fun t19 w=>
 K (.returned t19) w) (DoX prog (mEq .eql 3 (.tmp 4) (.const (.int .i64 8)) t4 (.int .i64 8)) w (pk K) fun t21 w=>
 IfX t21 (DoX prog (mFA 42 t1 1) w (pk K) fun t22 w=>
 DoX prog (aB 2 t22) w (pk K) fun t23 w=>
 CallX prog 57 #[t23,(.int .i64 1),(.int .i64 8191)] w (pk K) fun t24 w=>
 GDo t24 true (fun E=>DoX prog (mFA 42 t1 2) w (pk K) E) w fun t26 w=>
 GDo t24 true (fun E=>DoX prog (aB 3 t26) w (pk K) E) w fun t27 w=>
 GDo t24 true (fun E=>CallX prog 155 #[t27,(.int .i64 0),(.int .i64 65535)] w (pk K) E) w fun t28 w=>
 DoX prog (aL t24 t28 (.bool false)) w (pk K) fun t29 w=>
 K (.returned t29) w) (K (.returned (.bool true)) w))))
theorem EU (t0:Value)(w:World)(K:Ending→World→Prop):wpX prog 30 [] [] none (aK Tryz.f124) (topQ prog [.tmp 2] K) (aJ [t0]) [] w=yY t0 w K:=by kernel_rfl
theorem E3 {t0:Value}{w:World}{K:Ending→World→Prop}(h:yY t0 w K):Calls prog 124 #[t0] w K:=
 aA Tryz.func124 rfl rfl rfl rfl (Eq.mpr (EU t0 w K) h)
def tI (t0:Value)(w:World)(K:Ending→World→Prop):Prop:=
 DoX prog (mBox 42 t0) w (pk K) fun t1 w=>
 DoX prog (mFA 42 t1 0) w (pk K) fun t3 w=>
 DoX prog (aB 3 t3) w (pk K) fun t4 w=>
 DoX prog (mEq .eql 3 (.tmp 4) (.const (.int .i64 4)) t4 (.int .i64 4)) w (pk K) fun t6 w=>
 IfX t6 (DoX prog (mFA 42 t1 3) w (pk K) fun t7 w=>
 DoX prog (aB 9 t7) w (pk K) fun t8 w=>
 DoX prog (mB .len #[9] 3 #[false] #[t8]) w (pk K) fun t9 w=>
 DoX prog (mBin .leq 3 t9 (.int .i64 32767)) w (pk K) fun t10 w=>
 K (.returned t10) w) (DoX prog (mEq .eql 3 (.tmp 4) (.const (.int .i64 5)) t4 (.int .i64 5)) w (pk K) fun t12 w=>
 IfX t12 (DoX prog (mFA 42 t1 3) w (pk K) fun t13 w=>
 DoX prog (aB 9 t13) w (pk K) fun t14 w=>
 DoX prog (mB .len #[9] 3 #[false] #[t14]) w (pk K) fun t15 w=>
 DoX prog (mBin .leq 3 t15 (.int .i64 127)) w (pk K) fun t16 w=>
 K (.returned t16) w) (DoX prog (mFA 42 t1 3) w (pk K) fun t17 w=>
 DoX prog (aB 9 t17) w (pk K) fun t18 w=>
 DoX prog (mB .len #[9] 3 #[false] #[t18]) w (pk K) fun t19 w=>
 DoX prog (mBin .leq 3 t19 (.int .i64 1048576)) w (pk K) fun t20 w=>
 K (.returned t20) w))
theorem Ec (t0:Value)(w:World)(K:Ending→World→Prop):wpX prog 21 [] [] none (aK Tryz.f125) (topQ prog [.tmp 2] K) (aJ [t0]) [] w=tI t0 w K:=by kernel_rfl
theorem Ek {t0:Value}{w:World}{K:Ending→World→Prop}(h:tI t0 w K):Calls prog 125 #[t0] w K:=
 aA Tryz.func125 rfl rfl rfl rfl (Eq.mpr (Ec t0 w K) h)
def qC (t2 t4 t13:Value)(w:World)(K:Ending→World→Prop):Prop:=
 IfX t13 (DoX prog (aG 156 #[(2,(.bool true))]) w (pk K) fun t16 w=>
 DoX prog (aD 156 t2 t16) w (pk K) fun _ w=>
 RetX prog [.cell t2 156,.val (.bool true)] w K) (DoX prog (mEq .eql 3 (.tmp 4) (.const (.int .i64 6)) t4 (.int .i64 6)) w (pk K) fun t18 w=>
 IfX t18 (DoX prog (aG 156 #[(4,(.bool true))]) w (pk K) fun t19 w=>
 DoX prog (aD 156 t2 t19) w (pk K) fun _ w=>
 RetX prog [.cell t2 156,.val (.bool true)] w K) (DoX prog (mEq .eql 3 (.tmp 4) (.const (.int .i64 7)) t4 (.int .i64 7)) w (pk K) fun t21 w=>
 IfX t21 (DoX prog (aG 156 #[(3,(.bool true)),(4,(.bool true))]) w (pk K) fun t22 w=>
 DoX prog (aD 156 t2 t22) w (pk K) fun _ w=>
 RetX prog [.cell t2 156,.val (.bool true)] w K) (DoX prog (mEq .eql 3 (.tmp 4) (.const (.int .i64 8)) t4 (.int .i64 8)) w (pk K) fun t24 w=>
 IfX t24 (DoX prog (aG 156 #[(0,(.bool true)),(1,(.bool true))]) w (pk K) fun t25 w=>
 DoX prog (aD 156 t2 t25) w (pk K) fun _ w=>
 RetX prog [.cell t2 156,.val (.bool true)] w K) (DoX prog (mEq .eql 3 (.tmp 4) (.const (.int .i64 9)) t4 (.int .i64 9)) w (pk K) fun t27 w=>
 IfX t27 (DoX prog (aG 156 #[(2,(.bool true)),(3,(.bool true)),(4,(.bool true))]) w (pk K) fun t28 w=>
 DoX prog (aD 156 t2 t28) w (pk K) fun _ w=>
 RetX prog [.cell t2 156,.val (.bool true)] w K) (DoX prog (aG 156 #[]) w (pk K) fun t29 w=>
 DoX prog (aD 156 t2 t29) w (pk K) fun _ w=>
 RetX prog [.cell t2 156,.val (.bool false)] w K)))))
def qU (t2 t4 t8:Value)(w:World)(K:Ending→World→Prop):Prop:=
 IfX t8 (DoX prog (aG 156 #[(0,(.bool true))]) w (pk K) fun t12 w=>
 DoX prog (aD 156 t2 t12) w (pk K) fun _ w=>
 RetX prog [.cell t2 156,.val (.bool true)] w K) (JoinX (fun J2=>
 DoX prog (mEq .eql 3 (.tmp 4) (.const (.int .i64 4)) t4 (.int .i64 4)) w (pk K) fun t14 w=>
 IfX t14 (J2 [t14] w) (DoX prog (mEq .eql 3 (.tmp 4) (.const (.int .i64 5)) t4 (.int .i64 5)) w (pk K) fun t15 w=>
 J2 [t15] w)) (fun vs2 w=>∀_:Sg,qC t2 t4 (vs2.getD 0 undef) w K))
def xA (t0:Value)(w:World)(K:Ending→World→Prop):Prop:=
 DoX prog (aN 156) w (pk K) fun t2 w=>
 DoX prog (mEq .eql 3 (.tmp 4) (.const (.int .i64 0)) t0 (.int .i64 0)) w (pk K) fun t6 w=>
 IfX t6 (DoX prog (aG 156 #[]) w (pk K) fun t7 w=>
 DoX prog (aD 156 t2 t7) w (pk K) fun _ w=>
 RetX prog [.cell t2 156,.val (.bool true)] w K) (JoinX (fun J1=>
 DoX prog (mEq .eql 3 (.tmp 4) (.const (.int .i64 1)) t0 (.int .i64 1)) w (pk K) fun t9 w=>
 IfX t9 (J1 [t9] w) (DoX prog (mEq .eql 3 (.tmp 4) (.const (.int .i64 2)) t0 (.int .i64 2)) w (pk K) fun t10 w=>
 IfX t10 (J1 [t10] w) (DoX prog (mEq .eql 3 (.tmp 4) (.const (.int .i64 3)) t0 (.int .i64 3)) w (pk K) fun t11 w=>
 J1 [t11] w))) (fun vs1 w=>∀_:Sg,qU t2 t0 (vs1.getD 0 undef) w K))
theorem Fc (t0:Value)(w:World)(K:Ending→World→Prop):wpX prog 30 [(7,[8]),(10,[13])] [] none (aK Tryz.f123) (topQ prog [.cell 2 156,.tmp 3] K) (aJ [t0]) [] w=xA t0 w K:=by kernel_rfl
theorem FC {t0:Value}{w:World}{K:Ending→World→Prop}(h:xA t0 w K):Calls prog 123 #[t0] w K:=
 aA Tryz.func123 rfl rfl rfl rfl (Eq.mpr (Fc t0 w K) h)
def xD (t0 t1:Value)(w:World)(K:Ending→World→Prop):Prop:=
 DoX prog (mUn .not t0) w (pk K) fun t5 w=>
 IfX t5 (DoX prog (aG 153 #[(0,t1)]) w (pk K) fun t7 w=>
 DoX prog (pU 153 t7) w (pk K) fun t8 w=>
 DoX prog (iT t8) w (pk K) fun _ w=>
 K (.returned (.tuple #[])) w) (K (.returned (.tuple #[])) w)
theorem Fb (t0 t1:Value)(w:World)(K:Ending→World→Prop):wpX prog 9 [] [] none (aK Tryz.f122) (topQ prog [] K) (aJ [t0,t1]) [] w=xD t0 t1 w K:=by kernel_rfl
theorem Fg {t0 t1:Value}{w:World}{K:Ending→World→Prop}(h:xD t0 t1 w K):Calls prog 122 #[t0,t1] w K:=
 aA Tryz.func122 rfl rfl rfl rfl (Eq.mpr (Fb t0 t1 w K) h)
def oX (t1 t105 t106 t107:Value)(w:World)(N1:List Value→World→Prop)(K:Ending→World→Prop):Prop:=
 DoX prog (mBin .lss 3 t107 t106) w (pk K) fun t108 w=>
 IfX t108 (DoX prog (mIA 40 t105 t107) w (pk K) fun t109 w=>
 DoX prog (aB 42 t109) w (pk K) fun t110 w=>
 DoX prog (aN 42) w (pk K) fun t7 w=>
 DoX prog (aD 42 t7 t110) w (pk K) fun _ w=>
 DoX prog (aB 42 t7) w (pk K) fun t111 w=>
 DoX prog (mBin .add 3 t1 (.int .i64 1)) w (pk K) fun t113 w=>
 CallX prog 87 #[t111,t113] w (pk K) fun t114 w=>
 DoX prog (mBin .add 3 t107 (.int .i64 1)) w (pk K) fun t115 w=>
 N1 [t115] w) (K (.returned (.tuple #[])) w)
def tU (t0 t1:Value)(w:World)(K:Ending→World→Prop):Prop:=
 DoX prog (mBox 42 t0) w (pk K) fun t2 w=>
 DoX prog (mBin .leq 3 t1 (.int .i64 24)) w (pk K) fun t9 w=>
 CallX prog 122 #[t9,(.int .i64 7)] w (pk K) fun t10 w=>
 DoX prog (mFA 42 t2 0) w (pk K) fun t12 w=>
 DoX prog (aB 3 t12) w (pk K) fun t13 w=>
 CallX prog 123 #[t13] w (pk K) fun t14 w=>
 DoX prog (mExt t14 0) w (pk K) fun t15 w=>
 DoX prog (mExt t14 1) w (pk K) fun t16 w=>
 DoX prog (aN 156) w (pk K) fun t4 w=>
 DoX prog (aD 156 t4 t15) w (pk K) fun _ w=>
 GDo t16 true (fun E=>DoX prog (mFA 156 t4 0) w (pk K) E) w fun t19 w=>
 GDo t16 true (fun E=>DoX prog (aB 4 t19) w (pk K) E) w fun t20 w=>
 GDo t16 true (fun E=>E t20 w) w fun t21 w=>
 GDo t21 false (fun E=>DoX prog (mFA 42 t2 1) w (pk K) E) w fun t22 w=>
 GDo t21 false (fun E=>DoX prog (aB 2 t22) w (pk K) E) w fun t23 w=>
 GDo t21 false (fun E=>DoX prog (mEq .eql 2 (.tmp 23) (.const (.int .i64 0)) t23 (.int .i64 0)) w (pk K) E) w fun t24 w=>
 GDo t16 true (fun E=>DoX prog (aL t21 (.bool true) t24) w (pk K) E) w fun t25 w=>
 DoX prog (aL t16 t25 (.bool false)) w (pk K) fun t26 w=>
 GDo t26 true (fun E=>DoX prog (mFA 156 t4 1) w (pk K) E) w fun t28 w=>
 GDo t26 true (fun E=>DoX prog (aB 4 t28) w (pk K) E) w fun t29 w=>
 GDo t26 true (fun E=>E t29 w) w fun t30 w=>
 GDo t30 false (fun E=>DoX prog (mFA 42 t2 2) w (pk K) E) w fun t31 w=>
 GDo t30 false (fun E=>DoX prog (aB 3 t31) w (pk K) E) w fun t32 w=>
 GDo t30 false (fun E=>DoX prog (mEq .eql 3 (.tmp 32) (.const (.int .i64 0)) t32 (.int .i64 0)) w (pk K) E) w fun t33 w=>
 GDo t26 true (fun E=>DoX prog (aL t30 (.bool true) t33) w (pk K) E) w fun t34 w=>
 DoX prog (aL t26 t34 (.bool false)) w (pk K) fun t35 w=>
 GDo t35 true (fun E=>DoX prog (mFA 156 t4 2) w (pk K) E) w fun t37 w=>
 GDo t35 true (fun E=>DoX prog (aB 4 t37) w (pk K) E) w fun t38 w=>
 GDo t35 true (fun E=>E t38 w) w fun t39 w=>
 GDo t39 false (fun E=>DoX prog (mFA 42 t2 3) w (pk K) E) w fun t40 w=>
 GDo t39 false (fun E=>DoX prog (aB 9 t40) w (pk K) E) w fun t41 w=>
 GDo t39 false (fun E=>DoX prog (mEq .eql 9 (.tmp 41) (.const (.string ⟨#[]⟩)) t41 (.string ⟨#[]⟩)) w (pk K) E) w fun t42 w=>
 GDo t35 true (fun E=>DoX prog (aL t39 (.bool true) t42) w (pk K) E) w fun t43 w=>
 DoX prog (aL t35 t43 (.bool false)) w (pk K) fun t44 w=>
 GDo t44 true (fun E=>DoX prog (mFA 156 t4 3) w (pk K) E) w fun t46 w=>
 GDo t44 true (fun E=>DoX prog (aB 4 t46) w (pk K) E) w fun t47 w=>
 GDo t44 true (fun E=>E t47 w) w fun t48 w=>
 GDo t48 false (fun E=>DoX prog (mFA 42 t2 4) w (pk K) E) w fun t49 w=>
 GDo t48 false (fun E=>DoX prog (aB 39 t49) w (pk K) E) w fun t50 w=>
 GDo t48 false (fun E=>DoX prog (mB .len #[39] 3 #[false] #[t50]) w (pk K) E) w fun t51 w=>
 GDo t48 false (fun E=>DoX prog (mEq .eql 3 (.tmp 51) (.const (.int .i64 0)) t51 (.int .i64 0)) w (pk K) E) w fun t52 w=>
 GDo t44 true (fun E=>DoX prog (aL t48 (.bool true) t52) w (pk K) E) w fun t53 w=>
 DoX prog (aL t44 t53 (.bool false)) w (pk K) fun t54 w=>
 GDo t54 true (fun E=>DoX prog (mFA 156 t4 4) w (pk K) E) w fun t56 w=>
 GDo t54 true (fun E=>DoX prog (aB 4 t56) w (pk K) E) w fun t57 w=>
 GDo t54 true (fun E=>E t57 w) w fun t58 w=>
 GDo t58 false (fun E=>DoX prog (mFA 42 t2 5) w (pk K) E) w fun t59 w=>
 GDo t58 false (fun E=>DoX prog (aB 40 t59) w (pk K) E) w fun t60 w=>
 GDo t58 false (fun E=>DoX prog (mB .len #[40] 3 #[false] #[t60]) w (pk K) E) w fun t61 w=>
 GDo t58 false (fun E=>DoX prog (mEq .eql 3 (.tmp 61) (.const (.int .i64 0)) t61 (.int .i64 0)) w (pk K) E) w fun t62 w=>
 GDo t54 true (fun E=>DoX prog (aL t58 (.bool true) t62) w (pk K) E) w fun t63 w=>
 DoX prog (aL t54 t63 (.bool false)) w (pk K) fun t64 w=>
 GDo t64 true (fun E=>E t1 w) w fun t66 w=>
 GDo t64 true (fun E=>DoX prog (mEq .eql 3 (.tmp 66) (.const (.int .i64 1)) t66 (.int .i64 1)) w (pk K) E) w fun t67 w=>
 GDo t64 true (fun E=>E t67 w) w fun t68 w=>
 GDo t68 false (fun E=>DoX prog (mFA 42 t2 0) w (pk K) E) w fun t69 w=>
 GDo t68 false (fun E=>DoX prog (aB 3 t69) w (pk K) E) w fun t70 w=>
 GDo t68 false (fun E=>DoX prog (mEq .neq 3 (.tmp 70) (.const (.int .i64 9)) t70 (.int .i64 9)) w (pk K) E) w fun t71 w=>
 GDo t64 true (fun E=>DoX prog (aL t68 (.bool true) t71) w (pk K) E) w fun t72 w=>
 DoX prog (aL t64 t72 (.bool false)) w (pk K) fun t73 w=>
 CallX prog 122 #[t73,(.int .i64 10)] w (pk K) fun t74 w=>
 DoX prog (aB 42 t2) w (pk K) fun t75 w=>
 CallX prog 124 #[t75] w (pk K) fun t76 w=>
 CallX prog 122 #[t76,(.int .i64 2)] w (pk K) fun t77 w=>
 DoX prog (aB 42 t2) w (pk K) fun t78 w=>
 CallX prog 125 #[t78] w (pk K) fun t79 w=>
 CallX prog 122 #[t79,(.int .i64 5)] w (pk K) fun t80 w=>
 DoX prog (mFA 42 t2 5) w (pk K) fun t81 w=>
 DoX prog (aB 40 t81) w (pk K) fun t82 w=>
 DoX prog (mB .len #[40] 3 #[false] #[t82]) w (pk K) fun t83 w=>
 DoX prog (mBin .leq 3 t83 (.int .i64 8191)) w (pk K) fun t84 w=>
 CallX prog 122 #[t84,(.int .i64 6)] w (pk K) fun t85 w=>
 DoX prog (mFA 42 t2 0) w (pk K) fun t86 w=>
 DoX prog (aB 3 t86) w (pk K) fun t87 w=>
 DoX prog (mEq .neq 3 (.tmp 87) (.const (.int .i64 5)) t87 (.int .i64 5)) w (pk K) fun t88 w=>
 GDo t88 false (fun E=>DoX prog (mFA 42 t2 3) w (pk K) E) w fun t90 w=>
 GDo t88 false (fun E=>DoX prog (aB 9 t90) w (pk K) E) w fun t91 w=>
 GDo t88 false (fun E=>CallX prog 126 #[t91] w (pk K) E) w fun t92 w=>
 DoX prog (aL t88 (.bool true) t92) w (pk K) fun t93 w=>
 GDo t93 true (fun E=>DoX prog (mFA 156 t4 3) w (pk K) E) w fun t95 w=>
 GDo t93 true (fun E=>DoX prog (aB 4 t95) w (pk K) E) w fun t96 w=>
 GDo t93 true (fun E=>DoX prog (mUn .not t96) w (pk K) E) w fun t97 w=>
 GDo t93 true (fun E=>E t97 w) w fun t98 w=>
 GDo t98 false (fun E=>DoX prog (aB 42 t2) w (pk K) E) w fun t99 w=>
 GDo t98 false (fun E=>CallX prog 127 #[t99] w (pk K) E) w fun t100 w=>
 GDo t93 true (fun E=>DoX prog (aL t98 (.bool true) t100) w (pk K) E) w fun t101 w=>
 DoX prog (aL t93 t101 (.bool false)) w (pk K) fun t102 w=>
 CallX prog 122 #[t102,(.int .i64 3)] w (pk K) fun t103 w=>
 DoX prog (mFA 42 t2 5) w (pk K) fun t104 w=>
 DoX prog (aB 40 t104) w (pk K) fun t105 w=>
 DoX prog (mB .len #[40] 3 #[false] #[t105]) w (pk K) fun t106 w=>
 LoopX [(.int .i64 0)] w (fun vs1 w N1=>∀_:Sg,oX t1 t105 t106 (vs1.getD 0 undef) w N1 K)
theorem DV (t0 t1:Value)(w:World)(K:Ending→World→Prop):wpX prog 116 [] [(9,[107])] none (aK Tryz.f87) (topQ prog [] K) (aJ [t0,t1]) [] w=tU t0 t1 w K:=by kernel_rfl
theorem Ea {t0 t1:Value}{w:World}{K:Ending→World→Prop}(h:tU t0 t1 w K):Calls prog 87 #[t0,t1] w K:=
 aA Tryz.func87 rfl rfl rfl rfl (Eq.mpr (DV t0 t1 w K) h)
def pD (t0:Value)(w:World)(K:Ending→World→Prop):Prop:=
 DoX prog (aB 42 t0) w (pk K) fun t1 w=>
 CallX prog 87 #[t1,(.int .i64 1)] w (pk K) fun t2 w=>
 K (.returned (.tuple #[])) w
theorem Ch (t0:Value)(w:World)(K:Ending→World→Prop):wpX prog 3 [] [] none (aK Tryz.f86) (topQ prog [] K) (aJ [t0]) [] w=pD t0 w K:=by kernel_rfl
theorem Cd {t0:Value}{w:World}{K:Ending→World→Prop}(h:pD t0 w K):Calls prog 86 #[t0] w K:=
 aA Tryz.func86 rfl rfl rfl rfl (Eq.mpr (Ch t0 w K) h)
def gG (t0 r:Value)(w:World)(K:Ending→World→Prop):Prop:=
 DoX prog (mEq .eql 20 (.tmp 4) (.const .nilIface) r .nilIface) w (pk K) fun t6 w=>
 IfX t6 (K (.returned (.tuple #[])) w) (DoX prog (mTA r 20 153 true) w (pk K) fun t7 w=>
 DoX prog (mExt t7 1) w (pk K) fun t8 w=>
 DoX prog (mExt t7 0) w (pk K) fun t9 w=>
 IfX t8 (DoX prog (aN 153) w (pk K) fun t2 w=>
 DoX prog (aD 153 t2 t9) w (pk K) fun _ w=>
 DoX prog (mFA 153 t2 0) w (pk K) fun t10 w=>
 DoX prog (aB 24 t10) w (pk K) fun t11 w=>
 DoX prog (aD 24 t0 t11) w (pk K) fun _ w=>
 K (.returned (.tuple #[])) w) (DoX prog (iT r) w (pk K) fun _ w=>
 K (.returned (.tuple #[])) w))
theorem Bk (t0 r:Value)(w:World)(K:Ending→World→Prop):wpX prog 12 [] [] none (RJ (aK Tryz.f121)) (topD prog [] K) (upd (aJ [t0]) 4 r) [] w=gG t0 r w K:=by kernel_rfl
theorem nN {t0:Value}{u:FrameMode}{w:World}{R:Ending→FrameMode→World→Prop}(h:gG t0 (recV u) w (fun e w=>R e (recM u) w)):CallsD prog 121 #[t0] u w R:=
 lH Tryz.func121 rfl rfl rfl rfl rfl rfl rfl rfl (Eq.mpr (Bk t0 (recV u) w _) h)
def kU (x0:Deferred)(x1:Value)(K:Ending→World→Prop):=pd prog [.cell x1 24] K [x0]
def qV (t0:Value)(w:World)(K:Ending→World→Prop):Prop:=
 DoX prog (aN 24) w (pk K) fun t2 w=>
 DoX prog (LL (.func 121) #[] #[t2]) w (pk K) fun t3 w=>
 DfrX (dfrV t3 #[]) (fun d1=>
 DoX prog (jI t0 #[]) w (kU d1 t2 K) fun t5 w=>
 DoX prog (aD 24 t2 (.int .i64 0)) w (kU d1 t2 K) fun _ w=>
 oO prog [.cell t2 24] K [d1] .returning w)
theorem CV (t0:Value)(w:World)(K:Ending→World→Prop):wpX prog 6 [] [] none (aK Tryz.f85) (topQ prog [.cell 2 24] K) (aJ [t0]) [] w=qV t0 w K:=by kernel_rfl
theorem De {t0:Value}{w:World}{K:Ending→World→Prop}(h:qV t0 w K):Calls prog 85 #[t0] w K:=
 aA Tryz.func85 rfl rfl rfl rfl (Eq.mpr (CV t0 w K) h)
def uK (t0:Value)(w:World)(K:Ending→World→Prop):Prop:=
 DoX prog (mBox 42 t0) w (pk K) fun t1 w=>
 DoX prog (LL (.func 86) #[] #[t1]) w (pk K) fun t3 w=>
 CallX prog 85 #[t3] w (pk K) fun t4 w=>
 K (.returned t4) w
theorem D2 (t0:Value)(w:World)(K:Ending→World→Prop):wpX prog 5 [] [] none (aK Tryz.f50) (topQ prog [.tmp 2] K) (aJ [t0]) [] w=uK t0 w K:=by kernel_rfl
theorem DU {t0:Value}{w:World}{K:Ending→World→Prop}(h:uK t0 w K):Calls prog 50 #[t0] w K:=
 aA Tryz.func50 rfl rfl rfl rfl (Eq.mpr (D2 t0 w K) h)
end
section
open Eng Go.RowKit
 attribute [local congr] iA
theorem iS (n a b:Int)(w:World):Ret prog 57 #[.int .i64 n,.int .i64 a,.int .i64 b] w (fun v w'=>v=.bool (decide (a≤n)&&decide (n≤b))∧w=w'):=by
 refine aO fun K hK=>tV ?_;unfold fZ;simp +contextual only[rs,gs];exact hK _ _ ⟨rfl,rfl⟩
theorem Ls (n a b:Int)(w:World):Ret prog 155 #[.int .i64 n,.int .i64 a,.int .i64 b] w (fun v w'=>v=.bool (decide (a≤n)&&decide (n≤b))∧w=w'):=by
 refine aO fun K hK=>yD ?_;unfold jP;simp +contextual only[rs,gs];exact hK _ _ ⟨rfl,rfl⟩
theorem OR {p:UInt8→Bool}:∀(s:List UInt8),s.takeWhile p=s→∀x∈s,p x=true
|[],_,x,hx=>by cases hx
|a::s,h,x,hx=>by
  rw[List.takeWhile_cons] at h;split at h
  ·rename_i ha
   injection h with _ h
   rcases List.mem_cons.1 hx with rfl|hx
   ·exact ha
   ·exact OR s h x hx
  ·cases h
theorem Qy {p:UInt8→Bool}:∀(s:List UInt8) {a:UInt8} {t:List UInt8},s.dropWhile p=a::t→p a=false
|[],_,_,h=>by cases h
|b::s,a,t,h=>by
  rw[List.dropWhile_cons] at h;split at h
  ·exact Qy s h
  ·rename_i hb
   injection h with h _
   subst h;simpa using hb
theorem My (s:List UInt8)(w:World):Ret prog 126 #[.string ⟨s.toArray⟩] w (fun v w'=>v=.bool (Vl.name s)∧w=w'):=by
 refine aO fun K hK=>GA ?_;unfold Bc;rw[bD Tryz.underlying9,Rr];by_cases h:(s.length:Int)≤127
 ·have hi:∀{K':VWP},K' (.int .i64 (Lib.indexByte s 0)) w→CallX prog 92 #[.string ⟨s.toArray⟩,.int .u8 0] w (pk K) K':=fun hk=>c_eq (jO s 0 w) hk;simp only[h,decide_true,rs];refine hi ?_;simp only[rs];refine hK _ _ ⟨?_,rfl⟩;rw[Vl.name,decide_eq_true (show s.length≤127 by omega),Bool.true_and]
  congr 1
  rw[decide_eq_decide];rcases Eu 0 s with ⟨h1,h2,h3⟩|⟨i,h1,hil,h3,h4⟩
  ·rw[h1];refine⟨fun _ hm=>?_,fun _=>by decide⟩;have:=OR s h2 0 hm;simp at this
  ·rw[h1];refine⟨fun h=>by omega,fun hm=>absurd ?_ hm⟩;have hd:s.drop i=s[i]::s.drop (i+1):=List.drop_eq_getElem_cons hil;have h0:s[i]=0:=by
    have:=Qy s (h4.trans hd);simpa using this
   exact h0▸List.getElem_mem hil
 ·simp only[h,decide_false,rs,g_un];refine hK _ _ ⟨?_,rfl⟩;rw[Vl.name,decide_eq_false (show ¬s.length≤127 by omega)];rfl
theorem Lw (o:Ob)(v:Value)(w:World)(h:OV (InW w) w v o)(hb:o.keys.length≤9223372036854775807) :
  Ret prog 127 #[v] w (fun v w'=>v=.bool (Vl.rising o)∧Below w.heap.size w w'):=by
 obtain⟨vk,vc,cs,rfl,ha⟩:=h.open;refine aO fun K hK=>Dm ?_;unfold qG;refine rR o ha.keys.one ha.kids.one (Own.start w) fun b w1 ho=>?_;have lk:∀{W:World} {L:List Ent},Own w W L→∀{PK:PKT} {K:VWP},DoX prog (mB .len #[39] 3 #[false] #[vk]) W PK K=K (.int .i64 (o.keys.length:Int)) W:=fun ho=>bF Tryz.underlying39 (ha.own ho).keys.1;have lc:∀{W:World} {L:List Ent},Own w W L→∀{PK:PKT} {K:VWP},DoX prog (mB .len #[40] 3 #[false] #[vc]) W PK K=K (.int .i64 (o.kids.length:Int)) W:=fun ho=>bF Tryz.underlying40 (ha.own ho).kids.1;simp only[rs,nT,mH,dN ho 0 rfl,cX ho 0 rfl,lk ho,lc ho];by_cases hlen:(o.keys.length:Int)≠(o.kids.length:Int)
 ·simp only[decide_eq_true hlen,i_t];refine hK _ _ ⟨?_,ho.done⟩;have:¬o.keys.length=o.kids.length:=fun e=>hlen (by rw[e]);simp[Vl.rising,this]
 have hle:o.keys.length=o.kids.length:=by omega
 simp only[decide_eq_false hlen,i_f];have hR:Vl.rising o=(List.range o.keys.length).all (Vl.Gt o):=by simp[Vl.rising,hle]
 rw[hR] at hK;refine loop (fun vs w'=>∃(i:Nat),vs=[.int .i64 i]∧i≤o.keys.length∧(List.range i).all (Vl.Gt o)=true∧Own w w' [obE b o vk vc]) (fun vs _=>o.keys.length - n0 vs) ⟨0,rfl,by omega,by simp,ho⟩ ?_;rintro vs w2 ⟨i,rfl,hi,hall,ho⟩ _;simp only[uS,gd,rs];by_cases hlt:(i:Int) < (o.keys.length:Int)
 ·have hi':i < o.keys.length:=by omega
  simp only[hlt,decide_true,i_t];have ho2:=ha.own ho;refine JZ (.string ⟨(o.keys[i]).toArray⟩) Tryz.underlying39 (by kernel_rfl) ho2.keys.1 (by omega) (by rw[Int.toNat_natCast];exact eB hi') fun q hq=>?_;rw[aW mZ hq];refine c_eq (My o.keys[i] w2) ?_;obtain⟨kb,koff,hia,hkc⟩:=Qg ho2.kids.1 ho2.all (show i < o.kids.length by omega);have hlk:∀{PK:PKT} {K:VWP},DoX prog (aB 3 (.pointer (some ⟨kb,koff,none⟩))) w2 PK K=K (.int .i64 o.kids[i].k) w2:=aW F2 hkc;have hprev:decide (0 < (i:Int))=true→∃(b' off':Nat),(∀{PK:PKT} {K:VWP},DoX prog (mIA 39 vk (.int .i64 (IntKind.wrap .i64 ((i:Int) - 1)))) w2 PK K=K (.pointer (some ⟨b',off',none⟩)) w2) ∧
    (∀{PK:PKT} {K:VWP},DoX prog (aB 9 (.pointer (some ⟨b',off',none⟩))) w2 PK K=K (.string ⟨(o.keys.getD (i - 1) []).toArray⟩) w2):=by
   intro h;have h:=of_decide_eq_true h;have hj:i - 1 < o.keys.length:=by omega
   obtain⟨b',off',cap',rfl,hc'⟩:=gA ho2.keys.1 (show 0 < o.keys.length by omega);refine⟨b',off'+(i - 1),?_,?_⟩
   ·intro PK K;rw[aC (by omega) (by omega)];refine aT ?_;rw[nM Tryz.underlying39 (show _=some 1 by kernel_rfl) (by omega) (by omega),show ((i:Int) - 1).toNat*1=i - 1 by omega]
   ·intro PK K;rw[List.getD_eq_getElem?_getD,List.getElem?_eq_getElem hj];exact aW mZ (hc' _ _ (eB hj))
  have hgi:o.keys.getD i []=o.keys[i]:=by rw[List.getD_eq_getElem?_getD,List.getElem?_eq_getElem hi'];rfl
  have hgk:o.kids.getD i (.mk 0 0 0 [] [] [])=o.kids[i]'(by omega):=by rw[List.getD_eq_getElem?_getD,List.getElem?_eq_getElem (by omega)];rfl
  have tail:∀(q:Bool) (N:Prop),q=!(Vl.Gt o i)→(Vl.Gt o i=true→N)→IfX (.bool q) (K (.returned (.bool false)) w2) N:=by
   intro q N hq hN;cases hk:Vl.Gt o i with
  |false=>
    rw[hk] at hq;subst hq;rw[show (!false)=true from rfl,i_t];exact hK _ _ ⟨by rw[H5 hk hi'],ho.done⟩
  |true=>
    rw[hk] at hq;subst hq;rw[show (!true)=false from rfl,i_f];exact hN hk
  have hki:Vl.Gt o i=(Vl.name o.keys[i]&&(decide (i=0)||Vl.less (o.keys.getD (i - 1) []) o.keys[i])&&!(decide (o.k=9)&&decide (o.keys[i]=Vl.lenK))&&decide ((o.kids[i]'(by omega)).k≠0)):=by
   rw[Vl.Gt,hgi,hgk]
  by_cases hi0:i=0
  ·have hz:decide (0 < (i:Int))=false:=by rw[decide_eq_false_iff_not];omega
   simp +contextual only[rs,gs,hz,KM,Ui,HP,Bool.and_false,Bool.not_not,Bool.or_false,oG,mH,ob_k ho 0 rfl,cX ho 0 rfl,hia,hlk,g_un,p_f];refine tail _ _ ?_ fun hk=>?_
   ·rw[hki,decide_eq_true hi0];simp only[Bool.true_or,Bool.and_true,Vl.lenK,ne_eq,decide_not];generalize Vl.name o.keys[i]=a;generalize decide (o.k=9)=c;generalize decide ((o.kids[i]'(by omega)).k=0)=d;by_cases hL:o.keys[i]=[76,101,110,103,116,104]<;>simp only[hL,decide_true,decide_false]<;>cases a<;>cases c<;>cases d<;>rfl
   ·rw[aC (by omega) (by omega)];exact bG ⟨i+1,rfl,by omega,by rw[AE,hall,hk];rfl,ho⟩ (by simp[n0,RowKit.intOf];omega)
  ·have hz:decide (0 < (i:Int))=true:=by rw[decide_eq_true_iff];omega
   obtain⟨b',off',hpa,hpl⟩:=hprev hz;simp +contextual only[rs,gs,hz,KM,Ui,HP,Bool.and_false,Bool.not_not,Bool.or_false,oG,nT,mH,ob_k ho 0 rfl,dN ho 0 rfl,cX ho 0 rfl,hia,hlk,hpa,hpl,g_un];refine tail _ _ ?_ fun hk=>?_
   ·rw[hki,decide_eq_false hi0];simp only[Bool.false_or,Vl.lenK,ne_eq,decide_not];generalize Vl.name o.keys[i]=a;generalize decide (o.k=9)=c;generalize decide ((o.kids[i]'(by omega)).k=0)=d;show _=!(_&&Op.bytesLess (o.keys.getD (i - 1) []) o.keys[i]&&_&&_);generalize Op.bytesLess (o.keys.getD (i - 1) []) o.keys[i]=e;by_cases hL:o.keys[i]=[76,101,110,103,116,104]<;>simp only[hL,decide_true,decide_false]<;>cases a<;>cases c<;>cases d<;>cases e<;>rfl
   ·rw[aC (by omega) (by omega)];exact bG ⟨i+1,rfl,by omega,by rw[AE,hall,hk];rfl,ho⟩ (by simp[n0,RowKit.intOf];omega)
 ·simp only[hlt,decide_false,i_f];refine hK _ _ ⟨?_,ho.done⟩;rw[show o.keys.length=i by omega,hall]
theorem PS (o:Ob)(v:Value)(w:World)(h:OV (InW w) w v o):Ret prog 124 #[v] w (fun v w'=>v=.bool (Vl.fits o)∧Below w.heap.size w w'):=by
 obtain⟨vk,vc,cs,rfl,ha⟩:=h.open;refine aO fun K hK=>E3 ?_;unfold yY;refine rR o ha.keys.one ha.kids.one (Own.start w) fun b w1 ho=>?_;simp only[oG,ob_k ho 0 rfl,rs];by_cases k1:o.k=1
 ·simp only[k1,decide_true,i_t,IQ,ob_n ho 0 rfl];refine c_eq (iS _ _ _ w1) (hK _ _ ⟨?_,ho.done⟩);rw[Vl.fits,if_pos k1,Bool.decide_and]
 by_cases k2:o.k=2
 ·simp only[k2,Int.reduceEq,decide_true,decide_false,i_t,i_f,IQ,ob_n ho 0 rfl];refine c_eq (iS _ _ _ w1) (hK _ _ ⟨?_,ho.done⟩);rw[Vl.fits,if_neg k1,if_pos k2,Bool.decide_and]
 by_cases k3:o.k=3
 ·simp only[k3,Int.reduceEq,decide_true,decide_false,i_t,i_f,IQ,ob_n ho 0 rfl];refine c_eq (iS _ _ _ w1) (hK _ _ ⟨?_,ho.done⟩);rw[Vl.fits,if_neg k1,if_neg k2,if_pos k3,Bool.decide_and]
 by_cases k8:o.k=8
 ·simp only[k8,Int.reduceEq,decide_true,decide_false,i_t,i_f,IQ,ob_n ho 0 rfl];refine c_eq (iS _ _ _ w1) ?_;have hf:Vl.fits o=(decide (1≤o.n)&&decide (o.n≤8191)&&(decide (0≤o.g)&&decide (o.g≤65535))):=by
   rw[Vl.fits,if_neg k1,if_neg k2,if_neg k3,if_pos k8,Bool.decide_and,Bool.decide_and]
  rw[hf] at hK;cases hc:(decide (1≤o.n)&&decide (o.n≤8191)) with
 |false=>
   rw[hc] at hK;rw[g_ft,g_ft,g_ft,p_f];exact hK _ _ ⟨rfl,ho.done⟩
 |true=>
   rw[hc] at hK;rw[g_tt,QQ,g_tt,ob_g ho 0 rfl,g_tt];refine c_eq (Ls _ _ _ w1) ?_;rw[p_t];exact hK _ _ ⟨rfl,ho.done⟩
 simp only[k1,k2,k3,k8,decide_false,i_f];refine hK _ _ ⟨?_,ho.done⟩;rw[Vl.fits,if_neg k1,if_neg k2,if_neg k3,if_neg k8]
def Hb (o:Ob):Bool:=if o.k=4 then decide (o.s.length≤32767) else if o.k=5 then decide (o.s.length≤127) else decide (o.s.length≤1048576)
theorem Om (o:Ob)(v:Value)(w:World)(h:OV (InW w) w v o):Ret prog 125 #[v] w (fun v w'=>v=.bool (Hb o)∧Below w.heap.size w w'):=by
 obtain⟨vk,vc,cs,rfl,ha⟩:=h.open;refine aO fun K hK=>Ek ?_;unfold tI;refine rR o ha.keys.one ha.kids.one (Own.start w) fun b w1 ho=>?_;simp only[oG,ob_k ho 0 rfl,rs];have hi:∀m:Nat,decide ((o.s.length:Int)≤(m:Int))=decide (o.s.length≤m):=fun m=>by rw[decide_eq_decide];omega
 by_cases k4:o.k=4
 ·simp only[k4,decide_true,i_t,K8,ob_s ho 0 rfl,bD Tryz.underlying9,rs];refine hK _ _ ⟨?_,ho.done⟩;rw[Hb,if_pos k4,←hi];rfl
 by_cases k5:o.k=5
 ·simp only[k5,Int.reduceEq,decide_true,decide_false,i_t,i_f,K8,ob_s ho 0 rfl,bD Tryz.underlying9,rs];refine hK _ _ ⟨?_,ho.done⟩;rw[Hb,if_neg k4,if_pos k5,←hi];rfl
 simp only[k4,k5,decide_false,i_f,K8,ob_s ho 0 rfl,bD Tryz.underlying9,rs];refine hK _ _ ⟨?_,ho.done⟩;rw[Hb,if_neg k4,if_neg k5,←hi];rfl
theorem NH {o:Ob}(h:Vl.oF o=true):Hb o=!decide (Vl.long o.k < o.s.length):=by
 have key:∀m:Nat,decide (o.s.length≤m)=!decide (m < o.s.length):=fun m=>by
  rw[Bool.eq_iff_iff];simp
 unfold Hb Vl.long;by_cases k4:o.k=4
 ·rw[if_pos k4,if_neg (by omega),if_neg (by omega),key]
 by_cases k5:o.k=5
 ·rw[if_neg k4,if_pos k5,if_pos k5,key]
 by_cases k9:o.k=9
 ·rw[if_neg k4,if_neg k5,if_neg k5,if_pos k9,key]
 have hs:o.s=[]:=by
  unfold Vl.oF Vl.used at h
  revert h
  split
  ·intro h;cases h
  ·rename_i n g s ks cs he
   intro h;simp only[Bool.and_eq_true,Bool.or_eq_true,decide_eq_true_eq] at h;have hsf:s=false:=by
    revert he
    repeat' split
    all_goals (intro he;first|(cases he;done)|skip)
    all_goals (simp only[Option.some.injEq,Prod.mk.injEq] at he;first|exact he.2.2.1.symm|omega)
   rcases h.1.1.2 with h1|h1
   ·rw[hsf] at h1;cases h1
   ·exact h1
 rw[if_neg k4,if_neg k5,if_neg k5,if_neg k9,hs];rfl
end
section
open Eng Go.RowKit
 attribute [local congr] iA
def uC (u:Bool×Bool×Bool×Bool×Bool):List Value:=[.bool u.1,.bool u.2.1,.bool u.2.2.1,.bool u.2.2.2.1,.bool u.2.2.2.2]
def uV (u:Bool×Bool×Bool×Bool×Bool):Value:=.agg (uC u).toArray
def uE (b:Nat)(u:Bool×Bool×Bool×Bool×Bool):Ent:=.cells b (uC u) 156
def u0:Bool×Bool×Bool×Bool×Bool:=(false,false,false,false,false)
theorem aggU:aggN prog 156=some 5:=by kernel_rfl
theorem szU:(Tryz.prog.info? 156).map (·.size)=some 5:=by kernel_rfl
theorem Vk (u:Bool×Bool×Bool×Bool×Bool):∀v∈uC u,v.oneCell'=true:=by
 intro v hv;simp only[uC,List.mem_cons,List.not_mem_nil,or_false] at hv;rcases hv with rfl|rfl|rfl|rfl|rfl<;>rfl
theorem Pt:dF prog 4=true:=by kernel_rfl
section
variable {w:World}{PK:PKT}{K:VWP}{S:Nat→Prop}{w0:World}{L:List Ent}
theorem VS {b:Nat}:DoX prog (mFA 156 (.pointer (some ⟨b,0,none⟩)) 0) w PK K=K (.pointer (some ⟨b,0,none⟩)) w:=cF (show fOff prog 156 0=some 0 by kernel_rfl)
theorem Wy {b:Nat}:DoX prog (mFA 156 (.pointer (some ⟨b,0,none⟩)) 1) w PK K=K (.pointer (some ⟨b,0+1,none⟩)) w:=cF (show fOff prog 156 1=some 1 by kernel_rfl)
theorem Vx {b:Nat}:DoX prog (mFA 156 (.pointer (some ⟨b,0,none⟩)) 2) w PK K=K (.pointer (some ⟨b,0+2,none⟩)) w:=cF (show fOff prog 156 2=some 2 by kernel_rfl)
theorem Ws {b:Nat}:DoX prog (mFA 156 (.pointer (some ⟨b,0,none⟩)) 3) w PK K=K (.pointer (some ⟨b,0+3,none⟩)) w:=cF (show fOff prog 156 3=some 3 by kernel_rfl)
theorem V2 {b:Nat}:DoX prog (mFA 156 (.pointer (some ⟨b,0,none⟩)) 4) w PK K=K (.pointer (some ⟨b,0+4,none⟩)) w:=cF (show fOff prog 156 4=some 4 by kernel_rfl)
theorem Uv (i:Nat){b:Nat}{u:Bool×Bool×Bool×Bool×Bool}(u':Bool×Bool×Bool×Bool×Bool)(ho:OwnS S w0 w L)(hi:L[i]?=some (uE b u))(k:∀w',OwnS S w0 w' (L.set i (uE b u'))→K undef w') :
  DoX prog (aD 156 (.pointer (some ⟨b,0,none⟩)) (uV u')) w PK K:=Bq i ho hi (new:=uC u') szU (Vk u') rfl k
end
def Uj (k:Int):Value:=.tuple #[uV ((Vl.used k).getD u0),.bool (Vl.used k).isSome]
theorem O9 (k:Int)(w:World):Ret prog 123 #[.int .i64 k] w (fun v w'=>v=Uj k∧Below w.heap.size w w'):=by
 refine aO fun K hK=>FC ?_;unfold xA;refine dD (fun b=>.pointer (some ⟨b,0,none⟩)) (uC u0) 156 (fun _=>by kernel_rfl) (Own.start w) fun b w1 ho=>?_;have fin:∀(u:Bool×Bool×Bool×Bool×Bool) (ok:Bool),Vl.used k=(if ok then some u else none)→(ok=false→u=u0)→DoX prog (aD 156 (.pointer (some ⟨b,0,none⟩)) (uV u)) w1 (pk K) fun _ w=>
   RetX prog [.cell (.pointer (some ⟨b,0,none⟩)) 156,.val (.bool ok)] w K:=by
  intro u ok hu h0;refine Uv 0 u ho rfl fun w2 ho=>?_;refine uU (bC (ho.agg 0 rfl aggU)) dR (hK _ _ ⟨?_,ho.done⟩);rw[Uj,hu];cases ok with
 |true=>rfl
 |false=>rw[h0 rfl];rfl
 have b0:∀{PK:PKT} {K:VWP},DoX prog (aG 156 #[]) w1 PK K=K (uV u0) w1:=aT (by kernel_rfl);have b1:∀{PK:PKT} {K:VWP},DoX prog (aG 156 #[(0,.bool true)]) w1 PK K=K (uV (true,false,false,false,false)) w1:=aT (by kernel_rfl);have b2:∀{PK:PKT} {K:VWP},DoX prog (aG 156 #[(2,.bool true)]) w1 PK K=K (uV (false,false,true,false,false)) w1:=aT (by kernel_rfl);have b3:∀{PK:PKT} {K:VWP},DoX prog (aG 156 #[(4,.bool true)]) w1 PK K=K (uV (false,false,false,false,true)) w1:=aT (by kernel_rfl);have b4:∀{PK:PKT} {K:VWP},DoX prog (aG 156 #[(3,.bool true),(4,.bool true)]) w1 PK K=K (uV (false,false,false,true,true)) w1:=aT (by kernel_rfl);have b5:∀{PK:PKT} {K:VWP},DoX prog (aG 156 #[(0,.bool true),(1,.bool true)]) w1 PK K=K (uV (true,true,false,false,false)) w1:=aT (by kernel_rfl);have b6:∀{PK:PKT} {K:VWP},DoX prog (aG 156 #[(2,.bool true),(3,.bool true),(4,.bool true)]) w1 PK K=K (uV (false,false,true,true,true)) w1:=aT (by kernel_rfl);simp only[rs];by_cases k0:k=0
 ·simp only[k0,decide_true,i_t,b0];exact fin _ true (by simp[Vl.used,k0,u0]) (by simp)
 simp only[k0,decide_false,i_f];refine join fun J hJ=>?_;by_cases k123:k=1∨k=2∨k=3
 ·have:J [.bool true] w1:=by
   refine hJ _ _ fun _=>?_;simp only[qU,gd,i_t,b1];exact fin _ true (by simp[Vl.used,k0,k123]) (by simp)
  by_cases k1:k=1
  ·simp only[k1,decide_true,i_t];exact this
  by_cases k2:k=2
  ·simp only[k2,Int.reduceEq,decide_true,decide_false,i_t,i_f];exact this
  have k3:k=3:=by omega
  simp only[k3,Int.reduceEq,decide_true,decide_false,i_t,i_f];exact this
 have k1:¬k=1:=fun h=>k123 (.inl h);have k2:¬k=2:=fun h=>k123 (.inr (.inl h));have k3:¬k=3:=fun h=>k123 (.inr (.inr h));simp only[k1,k2,k3,decide_false,i_f];refine hJ _ _ fun _=>?_;clear hJ;simp only[qU,gd,i_f,rs];refine join fun J hJ=>?_;by_cases k45:k=4∨k=5
 ·have:J [.bool true] w1:=by
   refine hJ _ _ fun _=>?_;simp only[qC,gd,i_t,b2];exact fin _ true (by simp[Vl.used,k0,k1,k2,k3,k45]) (by simp)
  by_cases k4:k=4
  ·simp only[k4,decide_true,i_t];exact this
  have k5:k=5:=by omega
  simp only[k5,Int.reduceEq,decide_true,decide_false,i_t,i_f];exact this
 have k4:¬k=4:=fun h=>k45 (.inl h);have k5:¬k=5:=fun h=>k45 (.inr h);simp only[k4,k5,decide_false,i_f];refine hJ _ _ fun _=>?_;clear hJ;simp only[qC,gd,i_f,rs];by_cases k6:k=6
 ·simp only[k6,decide_true,i_t,b3];exact fin _ true (by simp[Vl.used,k6]) (by simp)
 by_cases k7:k=7
 ·simp only[k7,Int.reduceEq,decide_true,decide_false,i_t,i_f,b4];exact fin _ true (by simp[Vl.used,k7]) (by simp)
 by_cases k8:k=8
 ·simp only[k8,Int.reduceEq,decide_true,decide_false,i_t,i_f,b5];exact fin _ true (by simp[Vl.used,k8]) (by simp)
 by_cases k9:k=9
 ·simp only[k9,Int.reduceEq,decide_true,decide_false,i_t,i_f,b6];exact fin _ true (by simp[Vl.used,k9]) (by simp)
 simp only[k6,k7,k8,k9,decide_false,i_f,b0];exact fin _ false (by simp[Vl.used,k0,k123,k45,k6,k7,k8,k9]) (by simp)
theorem O6 {k:Int}{n g s ks cs:Bool}(h:Vl.used k=some (n,g,s,ks,cs)):ks=decide (k=7∨k=9):=by
 revert h
 unfold Vl.used
 repeat' split
 all_goals (intro h;first|(cases h;done)|skip)
 all_goals simp only[Option.some.injEq,Prod.mk.injEq] at h
 all_goals rw[←h.2.2.2.1]
 all_goals symm
 all_goals first|(rw[decide_eq_false_iff_not];omega)|(rw[decide_eq_true_iff];omega)
abbrev badE (e:Int):PanicEntry:={ v:=.iface 153 (.agg #[.int .i64 e]),recovered:=false }
theorem Av {q r:Bool}{e:Int}{w:World}{PK:PKT}{K:VWP}(h:q=r)(hok:r=true→K (.tuple #[]) w)(hbad:r=false→PK [badE e] w):CallX prog 122 #[.bool q,.int .i64 e] w PK K:=by
 subst h;refine D3 (Fg (K:=fun e' w'=>(q=true→e'=.returned (.tuple #[])∧w'=w)∧(q=false→e'=.panicked [badE e]∧w'=w)) ?_) ?_
 ·unfold xD;cases q with
 |true=>
   rw[CU,show (!true)=false from rfl,i_f];exact⟨fun _=>⟨rfl,rfl⟩,fun h=>by cases h⟩
 |false=>
   rw[CU,show (!false)=true from rfl,i_t];have hb:∀{PK:PKT} {K:VWP},DoX prog (aG 153 #[(0,.int .i64 e)]) w PK K=K (.agg #[.int .i64 e]) w:=aT (by kernel_rfl);rw[hb,Jg (show lG prog 153=true by kernel_rfl),HQ];exact⟨fun h=>(by cases h),fun _=>⟨rfl,rfl⟩⟩
 ·rintro e' w' ⟨h1,h2⟩;cases q with
 |true=>obtain⟨rfl,rfl⟩:=h1 rfl;exact hok rfl
 |false=>obtain⟨rfl,rfl⟩:=h2 rfl;exact hbad rfl
end
section
open Eng Go.RowKit
 attribute [local congr] iA
theorem Og (n:Nat):∀(o:Ob) (v:Value) (d:Nat) (w:World) (K:Ending→World→Prop),o.wt≤n→OV (InW w) w v o→o.wt≤4611686018427387904→1≤d→d≤1000 →
  (Vl.check d o=0→∀w',Below w.heap.size w w'→K (.returned (.tuple #[])) w')→(Vl.check d o≠0→∀w',Below w.heap.size w w'→K (.panicked [badE (Vl.check d o)]) w') →
  Calls prog 87 #[v,.int .i64 (d:Int)] w K:=by
 induction n with
|zero=>intro o v d w K h;have:=o.zE;omega
|succ n ih=>
 intro o v d w K hn hov hb hd1 hd hok hbad;obtain⟨vk,vc,cs,rfl,ha⟩:=hov.open;refine Ea ?_;unfold tU;refine rR o ha.keys.one ha.kids.one (Own.start w) fun b w1 ho=>?_;have out:∀(e:Int) (W:World) (L:List Ent),Own w W L→Vl.why d o=e→e≠0→(pk K) [badE e] W:=by
  intro e W L ho h1 h2;have h3:Vl.check d o=e:=by rw[TS (by rw[h1];exact h2),h1]
  rw[h3] at hbad;exact hbad h2 W ho.done
 rw[Rr];refine Av (r:=decide (d≤24)) (by rw[decide_eq_decide];omega) (fun h24=>?_) fun h24=>out 7 w1 _ ho (by rw[Vl.why,if_pos (by have:=of_decide_eq_false h24;omega)]) (by decide);have h24':¬24 < d:=by have:=of_decide_eq_true h24;omega
 rw[oG,ob_k ho 0 rfl];refine dE (O9 o.k w1) rfl ho fun w2 ho=>?_;simp only[Uj,ex];refine dD (fun b=>.pointer (some ⟨b,0,none⟩)) (uC u0) 156 (fun _=>by kernel_rfl) ho fun b4 w3 ho=>?_;refine Uv 0 ((Vl.used o.k).getD u0) ho rfl fun w4 ho=>?_;have ho:Own w w4 [uE b4 ((Vl.used o.k).getD u0),obE b o vk vc]:=ho;have bad10:(Vl.oF o=false∨(o.k=9∧1 < d))→(pk K) [badE 10] w4:=fun h=>out 10 w4 _ ho (by rw[Vl.why,if_neg h24',if_pos h]) (by decide);have lk:∀{W:World} {L:List Ent},Own w W L→∀{PK:PKT} {K:VWP},DoX prog (mB .len #[39] 3 #[false] #[vk]) W PK K=K (.int .i64 (o.keys.length:Int)) W:=fun ho=>bF Tryz.underlying39 (ha.own ho).keys.1;have lc:∀{W:World} {L:List Ent},Own w W L→∀{PK:PKT} {K:VWP},DoX prog (mB .len #[40] 3 #[false] #[vc]) W PK K=K (.int .i64 (o.kids.length:Int)) W:=fun ho=>bF Tryz.underlying40 (ha.own ho).kids.1;cases hu:Vl.used o.k with
|none=>
  have hb10:=bad10 (.inl (by rw[Vl.oF,hu]));simp only[Option.isSome_none,rs,g_un];exact Av (r:=false) rfl (fun h=>by cases h) fun _=>hb10
|some u=>
 obtain⟨un,ug,us,uks,ucs⟩:=u;rw[hu,Option.getD_some] at ho;have hUo:Vl.oF o=((un||decide (o.n=0))&&(ug||decide (o.g=0))&&(us||decide (o.s=[]))&&(uks||decide (o.keys=[]))&&(ucs||decide (o.kids.length=0))):=by rw[Vl.oF,hu]
 have l0:∀{PK:PKT} {K:VWP},DoX prog (aB 4 (.pointer (some ⟨b4,0,none⟩))) w4 PK K=K (.bool un) w4:=aW Pt (ho.cell 0 rfl 0 rfl);have l1:∀{PK:PKT} {K:VWP},DoX prog (aB 4 (.pointer (some ⟨b4,0+1,none⟩))) w4 PK K=K (.bool ug) w4:=aW Pt (ho.cell 0 rfl 1 rfl);have l2:∀{PK:PKT} {K:VWP},DoX prog (aB 4 (.pointer (some ⟨b4,0+2,none⟩))) w4 PK K=K (.bool us) w4:=aW Pt (ho.cell 0 rfl 2 rfl);have l3:∀{W:World} {L:List Ent},Own w W (uE b4 (un,ug,us,uks,ucs)::L)→∀{PK:PKT} {K:VWP},DoX prog (aB 4 (.pointer (some ⟨b4,0+3,none⟩))) W PK K=K (.bool uks) W:=fun ho=>aW Pt (ho.cell 0 rfl 3 rfl);have l4:∀{PK:PKT} {K:VWP},DoX prog (aB 4 (.pointer (some ⟨b4,0+4,none⟩))) w4 PK K=K (.bool ucs) w4:=aW Pt (ho.cell 0 rfl 4 rfl);simp +contextual only[Option.isSome_some,rs,gs,KM,Ui,HP,Bool.and_false,Bool.not_not,Bool.or_false,VS,Wy,Vx,Ws,V2,l0,l1,l2,l3 ho,l4,oG,IQ,QQ,K8,nT,mH,ob_k ho 1 rfl,ob_n ho 1 rfl,ob_g ho 1 rfl,ob_s ho 1 rfl,dN ho 1 rfl,cX ho 1 rfl,lk ho,lc ho,M1];refine Av (r:=Vl.oF o&&!(decide (o.k=9)&&decide (1 < d))) ?_ (fun hq=>?_) fun hq=>?_
 ·rw[hUo,VY o.keys,Wa o.kids]
  congr 1
  by_cases h9:o.k=9
  ·simp only[h9,ne_eq,not_true,decide_false,Bool.or_false,decide_true,Bool.true_and];rw[Bool.eq_iff_iff];simp;omega
  ·simp only[h9,ne_eq,not_false_eq_true,decide_true,Bool.or_true,decide_false,Bool.false_and,Bool.not_false]
 rotate_left
 ·refine bad10 ?_;rw[Bool.and_eq_false_iff] at hq;rcases hq with h|h
  ·exact .inl h
  ·right;have:(decide (o.k=9)&&decide (1 < d))=true:=by simpa using h
   rw[Bool.and_eq_true] at this;exact⟨of_decide_eq_true this.1,of_decide_eq_true this.2⟩
 rw[Bool.and_eq_true] at hq;obtain⟨huo,hq9⟩:=hq;have hno:¬(Vl.oF o=false∨(o.k=9∧1 < d)):=by
  rintro (h|⟨h1,h2⟩)
  ·rw[huo] at h;cases h
  ·rw[decide_eq_true h1,decide_eq_true h2] at hq9;cases hq9
 rw[ob_v ho 1 rfl];refine dE (PS o _ w4 (ha.in_ ho).ov) rfl ho fun w5 ho=>?_;refine Av (r:=Vl.fits o) rfl (fun hfi=>?_) fun hfi=>out 2 w5 _ ho (by rw[Vl.why,if_neg h24',if_neg hno,if_pos hfi]) (by decide);have hfi':¬Vl.fits o=false:=by rw[hfi];decide
 rw[ob_v ho 1 rfl];refine dE (Om o _ w5 (ha.in_ ho).ov) rfl ho fun w6 ho=>?_;refine Av (r:=!decide (Vl.long o.k < o.s.length)) (NH huo) (fun hlo=>?_) fun hlo=>out 5 w6 _ ho (by rw[Vl.why,if_neg h24',if_neg hno,if_neg hfi',if_pos (by simpa using hlo)]) (by decide);have hlo':¬Vl.long o.k < o.s.length:=by simpa using hlo
 rw[cX ho 1 rfl,lc ho,Rr];refine Av (r:=decide (o.kids.length≤8191)) (by rw[decide_eq_decide];omega) (fun hm=>?_) fun hm=>out 6 w6 _ ho (by rw[Vl.why,if_neg h24',if_neg hno,if_neg hfi',if_neg hlo',if_pos (by have:=of_decide_eq_false hm;omega)]) (by decide);have hm':¬8191 < o.kids.length:=by have:=of_decide_eq_true hm;omega
 rw[ob_k ho 1 rfl,Tj];have huk:=O6 hu
 -- behind the form: the kids
 have rest:∀(W:World),Vl.form o=true→Own w W [uE b4 (un,ug,us,uks,ucs),obE b o vk vc] →
   DoX prog (aB 40 (.pointer (some ⟨b,0+5,none⟩))) W (pk K) fun t105 w=>
   DoX prog (mB .len #[40] 3 #[false] #[t105]) w (pk K) fun t106 w=>
   LoopX [(.int .i64 0)] w (fun vs1 w N1=>∀_:Sg,oX (.int .i64 (d:Int)) t105 t106 (vs1.getD 0 undef) w N1 K):=by
  intro W hfo ho;have hw0:Vl.why d o=0:=by rw[Vl.why,if_neg h24',if_neg hno,if_neg hfi',if_neg hlo',if_neg hm',if_neg (by rw[hfo];decide)]
  have hch:Vl.check d o=Vl.pS (d+1) o.kids:=by rw[Vl.Bo,if_neg (by simp[hw0])]
  rw[hch] at hok hbad;rw[cX ho 1 rfl,lc ho];refine loop (fun vs w'=>∃(i:Nat),vs=[.int .i64 i]∧i≤o.kids.length∧Vl.pS (d+1) o.kids=Vl.pS (d+1) (o.kids.drop i)∧Own w w' [uE b4 (un,ug,us,uks,ucs),obE b o vk vc]) (fun vs _=>o.kids.length - n0 vs) ⟨0,rfl,by omega,rfl,ho⟩ ?_;rintro vs w6 ⟨i,rfl,hi,hT,ho⟩ _;rw[hT] at hok hbad;simp only[oX,gd,rs];by_cases hlt:(i:Int) < (o.kids.length:Int)
  ·have hi':i < o.kids.length:=by omega
   simp only[hlt,decide_true,i_t];rw[LP _ _ _ hi'] at hok hbad hT;have hai:=ha.own ho;refine GB hai.kids.1 hai.all hi' fun v hv=>?_;obtain⟨vk',vc',cs',rfl,hkid⟩:=hv.open;have ho6:=ho;refine bU ho fun b7 w7 ho=>?_;refine bA 0 hkid.keys.one hkid.kids.one ho rfl fun w8 ho=>?_;have ho:Own w w8 [obE b7 o.kids[i] vk' vc',uE b4 (un,ug,us,uks,ucs),obE b o vk vc]:=ho;rw[ob_v ho 0 rfl,aC (by omega) (by omega),show (d:Int)+1=((d+1:Nat):Int) by omega];have hkw:=AG hi';refine D3 (ih o.kids[i] _ (d+1) w8 _ (by omega) (hkid.later ho6 ho).ov (by omega) (by omega) (by omega) (fun hc0 w9 hb9=>?_) (fun hc0 w9 hb9=>?_)) (fun _ _ h=>h)
   ·have ho:=ho.grow hb9;rw[if_neg (by simp[hc0])] at hT;simp only[Cont,rs];rw[aC (by omega) (by omega)];exact bG ⟨i+1,rfl,by omega,hT,ho.tail⟩ (by simp[n0,RowKit.intOf];omega)
   ·rw[if_pos hc0] at hbad;exact hbad hc0 w9 (ho.grow hb9).done
  ·simp only[hlt,decide_false,i_f];rw[List.drop_of_length_le (by omega),Vl.pS] at hok;exact hok rfl w6 ho.done
 have bad3:∀(W:World) (L:List Ent),Own w W L→Vl.form o=false→(pk K) [badE 3] W:=fun W L ho h=>out 3 W _ ho (by rw[Vl.why,if_neg h24',if_neg hno,if_neg hfi',if_neg hlo',if_neg hm',if_pos h]) (by decide);by_cases k5:o.k=5
 ·have k79:¬(o.k=7∨o.k=9):=by omega
  have hks:uks=false:=by rw[huk,decide_eq_false k79]
  have hf:Vl.form o=Vl.name o.s:=by simp[Vl.form,k5]
  rw[show decide (o.k≠5)=false by rw[decide_eq_false_iff_not];omega,g_ff,ob_s ho 1 rfl,g_ff];refine c_eq (My o.s w6) ?_;rw[p_f];cases hnm:Vl.name o.s with
 |false=>
   rw[g_ft,g_ft,show sel (jM (Value.bool false) true) undef=undef from rfl,g_un,g_un,g_ft,p_f];exact Av (r:=false) rfl (fun h=>by cases h) fun _=>bad3 w6 _ ho (by rw[hf,hnm])
 |true=>
   rw[g_tt,l3 ho,hks,g_tt,CU,show (!false)=true from rfl,show sel (jM (Value.bool true) true) (Value.bool true)=.bool true from rfl,g_tf,g_tf,g_tt,p_t,p_t];exact Av (r:=true) rfl (fun _=>rest w6 (by rw[hf,hnm]) ho) fun h=>by cases h
 ·rw[show decide (o.k≠5)=true by rw[decide_eq_true_iff];exact k5,g_tf,g_tf,p_t,g_tt,l3 ho,g_tt,CU];cases hks:uks with
 |false=>
   have k79:¬(o.k=7∨o.k=9):=by rw[huk,decide_eq_false_iff_not] at hks;exact hks
   rw[show (!false)=true from rfl,show sel (jM (Value.bool true) true) (Value.bool true)=.bool true from rfl,g_tf,g_tf,g_tt,p_t,p_t];rw[hks] at ho rest;exact Av (r:=true) rfl (fun _=>rest w6 (by simp[Vl.form,k5,k79]) ho) fun h=>by cases h
 |true=>
   have k79:o.k=7∨o.k=9:=by rw[huk,decide_eq_true_iff] at hks;exact hks
   have hf:Vl.form o=Vl.rising o:=by simp[Vl.form,k5,k79]
   rw[show (!true)=false from rfl,show sel (jM (Value.bool true) true) (Value.bool false)=.bool false from rfl,g_ff,ob_v ho 1 rfl,g_ff];refine dE (Lw o _ w6 (ha.in_ ho).ov (by have:=Pa (o:=o);omega)) rfl ho fun w7 ho=>?_;rw[g_tt,p_f,p_t];rw[hks] at ho rest;exact Av (r:=Vl.form o) hf.symm (fun hfo=>rest w7 hfo ho) fun h=>bad3 w7 _ ho h
theorem DB:dQ prog 121=true:=by kernel_rfl
theorem zQ {rs:List RV}{K:Ending→World→Prop}{f:Nat}{args caps:Array Value}{ds:List Deferred}{u:FrameMode}(hu:u≠.run)(hp:dQ prog f=true){w:World}
  (h:CallsD prog f (args++caps) u w fun
   |.returned _,u',w'=>oO prog rs K ds (settle u') w'
   |.panicked chain,u',w'=>oO prog rs K ds (raised u' chain) w'
   |.outgrown,_,_=>False):oO prog rs K ({ target:=.fn (.func f) caps,args:=args }::ds) u w:=
 ⟨hu,.func f,caps,f,args++caps,rfl,by simpa[invoke] using mI hp _ w,h⟩
theorem P7:dQ prog 86=true:=by kernel_rfl
abbrev LG:dF prog 24=true:=by kernel_rfl
theorem Ho (o:Ob)(v:Value)(w:World)(h:OV (InW w) w v o)(hb:o.wt≤4611686018427387904):Ret prog 50 #[v] w (fun v w'=>v=.int .i64 (Vl.check 1 o)∧Below w.heap.size w w'):=by
 refine aO fun K hK=>DU ?_;obtain⟨vk,vc,cs,rfl,ha⟩:=h.open;unfold uK;refine rR o ha.keys.one ha.kids.one (Own.start w) fun b w1 ho=>?_;rw[Hm];refine D3 (De (K:=fun e w'=>e=.returned (.int .i64 (Vl.check 1 o))∧Below w.heap.size w w') ?_) ?_
 rotate_left
 ·rintro e w' ⟨rfl,hb'⟩;exact hK _ _ ⟨rfl,hb'⟩
 unfold qV;refine dD (fun b=>.pointer (some ⟨b,0,none⟩)) [.int .i64 0] 24 (fun _=>by kernel_rfl) ho fun b2 w2 ho=>?_;rw[Hm];refine⟨_,rfl,?_⟩;refine PR P7 ?_;show CallX prog _ #[.pointer (some ⟨b,0,none⟩)] _ _ _;refine D3 (Cd (K:=fun e w'=>(Vl.check 1 o=0→e=.returned (.tuple #[])∧Below w2.heap.size w2 w')∧(Vl.check 1 o≠0→e=.panicked [badE (Vl.check 1 o)]∧Below w2.heap.size w2 w')) ?_) ?_
 ·unfold pD;rw[ob_v ho 1 rfl];refine D3 (Og o.wt o _ 1 w2 (fun e w'=>(Vl.check 1 o=0→e=.returned (.tuple #[])∧Below w2.heap.size w2 w')∧(Vl.check 1 o≠0→e=.panicked [badE (Vl.check 1 o)]∧Below w2.heap.size w2 w')) (Nat.le_refl _) (ha.in_ ho).ov hb (by omega) (by omega)
   (fun h0 w' hb'=>⟨fun _=>⟨rfl,hb'⟩,fun h=>absurd h0 h⟩) (fun h0 w' hb'=>⟨fun h=>absurd h h0,fun _=>⟨rfl,hb'⟩⟩)) ?_
  rintro e w' ⟨h1,h2⟩;by_cases h0:Vl.check 1 o=0
  ·obtain⟨rfl,hb'⟩:=h1 h0;exact⟨fun _=>⟨rfl,hb'⟩,fun h=>absurd h0 h⟩
  ·obtain⟨rfl,hb'⟩:=h2 h0;exact⟨fun h=>absurd h h0,fun _=>⟨rfl,hb'⟩⟩
 rintro e w' ⟨h1,h2⟩;by_cases h0:Vl.check 1 o=0
 ·obtain⟨rfl,hb'⟩:=h1 h0;simp only[Cont];have ho:=ho.grow hb';refine bI 0 ho rfl (by kernel_rfl) rfl (by simp) fun w4 ho=>?_;refine zQ (by simp) DB (nN ?_);simp only[gG,recV,recM,Eng.M1 Tryz.underlying20,rs];refine JO LG (ho.cell 0 rfl 0 rfl) (And.intro ?_ ho.done);rw[h0]
 ·obtain⟨rfl,hb'⟩:=h2 h0;simp only[Cont,kU,pd];have ho:=ho.grow hb';refine zQ (by simp) DB (nN ?_);simp only[gG,recV,recM,Eng.L7 Tryz.underlying20,rs,R6 (show lG prog 153=true by kernel_rfl),
   Bs (show [Value.agg #[.int .i64 (Vl.check 1 o)],Value.bool true][1]?=some (Value.bool true) from rfl),Bs (show [Value.agg #[.int .i64 (Vl.check 1 o)],Value.bool true][0]?=some (Value.agg #[.int .i64 (Vl.check 1 o)]) from rfl)]
  refine dD (fun b=>.pointer (some ⟨b,0,none⟩)) [.int .i64 0] 153 (fun _=>by kernel_rfl) ho fun b5 w5 ho=>?_;refine Bq 0 ho rfl (new:=[.int .i64 (Vl.check 1 o)]) (show (Tryz.prog.info? 153).map (·.size)=some 1 by kernel_rfl) (by simp;rfl) rfl fun w6 ho=>?_;rw[cF (show fOff prog 153 0=some 0 by kernel_rfl),aW LG (ho.cell 0 rfl 0 rfl)];refine bI 1 ho rfl (by kernel_rfl) rfl (by simp) fun w7 ho=>?_;exact JO LG (ho.cell 1 rfl 0 rfl) (And.intro rfl ho.done)
end
section
open Go
theorem Ob.Ga:∀os:List Ob,os.length≤Ob.wts os
|[]=>by simp
|o::os=>by
  have:=Ob.Ga os;have:1≤o.wt:=by cases o;rw[Ob.wt];omega
  rw[Ob.wts,List.length_cons];omega
theorem Ob.F4:∀(os:List Ob) (i:Nat) (hi:i < os.length),os[i].wt≤Ob.wts os
|o::os,0,_=>by rw[Ob.wts];show o.wt≤_;omega
|o::os,i+1,hi=>by
  have:=Ob.F4 os i (by simpa using hi);rw[Ob.wts,List.getElem_cons_succ];omega
|[],_,hi=>by simp at hi
namespace Wr
def num (n:Int):List UInt8:=(Pl.pInt n).1
def nul:List UInt8:=[110,117,108,108]
def tru:List UInt8:=[116,114,117,101]
def fal:List UInt8:=[102,97,108,115,101]
def leaf (k n:Int)(s:List UInt8):List UInt8:=
 if k=1 then (if n=0 then fal else tru)
 else if k=2 then num n
 else if k=3 then (Pl.JW n).1
 else if k=4 then (Pl.pStr s).1
 else if k=5 then (Pl.xF s).1
 else nul
 mutual
def parts:Ob→List (List UInt8)
|.mk k n g s keys kids=>
  if k=8 then [num n,num g,[82]]
  else if k=6 then [91]::(eK kids++[[93]])
  else if k=7 then [60,60]::(bW keys kids++[[62,62]])
  else [leaf k n s]
def eK:List Ob→List (List UInt8)
|[]=>[]
|o::os=>parts o++eK os
def bW (keys:List (List UInt8)):List Ob→List (List UInt8)
|[]=>[]
|o::os=>match keys with
 |[]=>[]
 |key::ks=>(Pl.xF key).1::(parts o++bW ks os)
end
theorem parts_eq (o:Ob):parts o=if o.k=8 then [num o.n,num o.g,[82]] else if o.k=6 then [91]::(eK o.kids++[[93]]) else if o.k=7 then [60,60]::(bW o.keys o.kids++[[62,62]]) else [leaf o.k o.n o.s]:=by
 cases o;rw[parts];rfl
theorem CW:∀(a b:List Ob),eK (a++b)=eK a++eK b
|[],b=>by simp[eK]
|o::a,b=>by rw[List.cons_append,eK,eK,CW a b,List.append_assoc]
theorem LA (os:List Ob)(i:Nat)(h:i < os.length):eK (os.take (i+1))=eK (os.take i)++parts os[i]:=by
 rw[List.take_succ_eq_append_getElem h,CW];simp[eK]
theorem E8:∀(ks:List (List UInt8)) (os:List Ob) (i:Nat) (h1:i < ks.length) (h2:i < os.length),bW (ks.take (i+1)) (os.take (i+1))=bW (ks.take i) (os.take i)++(Pl.xF ks[i]).1::parts os[i]
|key::ks,o::os,0,_,_=>by simp[bW]
|key::ks,o::os,i+1,h1,h2=>by
  rw[List.take_succ_cons,List.take_succ_cons,bW,E8 ks os i (by simpa using h1) (by simpa using h2),List.take_succ_cons,List.take_succ_cons,bW];simp
|[],_,_,h1,_=>by simp at h1
|_,[],_,_,h2=>by simp at h2
theorem Dd:∀(ks:List (List UInt8)) (os:List Ob) (i:Nat),ks.length≤i∨os.length≤i→bW (ks.take i) (os.take i)=bW ks os
|_,[],i,_=>by simp[bW]
|[],o::os,i,_=>by
  cases i with
 |zero=>simp[bW]
 |succ i=>simp[bW]
|key::ks,o::os,i,h=>by
  cases i with
 |zero=>simp at h
 |succ i=>
   rw[List.take_succ_cons,List.take_succ_cons,bW,bW,Dd ks os i (by simpa using h)]
theorem Ot (os:List Ob):bW [] os=[]:=by cases os<;>rw[bW]
theorem DE:∀(ks:List (List UInt8)) (os:List Ob) (i:Nat),bW ks os=bW (ks.take i) (os.take i)++bW (ks.drop i) (os.drop i)
|_,_,0=>by simp[bW]
|_,[],i+1=>by simp[bW]
|[],o::os,i+1=>by simp[Ot]
|key::ks,o::os,i+1=>by
  rw[List.take_succ_cons,List.take_succ_cons,List.drop_succ_cons,List.drop_succ_cons,bW,bW,DE ks os i];simp
theorem LW (n:Int):(num n).length≤21:=by
 unfold num Pl.pInt;split
 ·exact Lib.itoa_length_le n (by omega) (by omega)
 ·simp
theorem SB (n:Int):(Pl.JW n).1.length≤200:=by
 unfold Pl.JW;split
 ·show (Fx.text n).length≤200;unfold Fx.text;have h1:=Fx.HN (n.natAbs / 10000) 1;have h2:=Fx.JL n.natAbs;rw[if_pos (by assumption)];have h3:(if n < 0 then ([45]:List UInt8) else []).length≤1:=by split<;>simp
  simp only[List.length_append,List.length_cons,List.length_nil];omega
 ·simp
theorem TI (s:List UInt8):(Pl.pStr s).1.length≤4*s.length+2:=by
 unfold Pl.pStr;split
 ·simp
 ·have:=Pl.Ca Pl.esc 4 (fun c=>(Pl.P4 c).2) s;simp[Pl.str];simp at this;omega
theorem Im (s:List UInt8):(Pl.xF s).1.length≤3*s.length+1:=by
 unfold Pl.xF;split
 ·simp
 split
 ·simp
 ·have:=Pl.Ca Pl.nmc 3 (fun c=>(Pl.P2 c).2) s;simp[Pl.name];simp at this;omega
theorem RF (k n:Int)(s:List UInt8):(leaf k n s).length≤200+4*s.length:=by
 unfold leaf;split
 ·split<;>simp[fal,tru]<;>omega
 split
 ·have:=LW n;omega
 split
 ·have:=SB n;omega
 split
 ·have:=TI s;omega
 split
 ·have:=Im s;omega
 ·simp[nul];omega
 mutual
theorem B9:∀o:Ob,(parts o).length+3≤o.wt
|.mk k n g s keys kids=>by
  have h1:=HH kids;have h2:=Cj keys kids;have h3:=Ob.wts kids;rw[parts,Ob.wt];split
  ·simp;omega
  split
  ·simp;omega
  split
  ·simp;omega
  ·simp;omega
theorem HH:∀os:List Ob,(eK os).length+3*os.length≤Ob.wts os
|[]=>by simp[eK]
|o::os=>by
  have:=B9 o;have:=HH os;rw[eK,Ob.wts];simp;omega
theorem Cj (keys:List (List UInt8)):∀os:List Ob,(bW keys os).length+2*os.length≤Ob.wts os
|[]=>by simp[bW]
|o::os=>by
  have:=B9 o;cases keys with
 |nil=>rw[bW,Ob.wts];have:=Cj [] os;simp;omega
 |cons key ks=>have:=Cj ks os;rw[bW,Ob.wts];simp;omega
end
 mutual
theorem oR:∀o:Ob,Pl.tot (parts o)≤40*o.wt
|.mk k n g s keys kids=>by
  have h1:=G8 kids;have h2:=Hd keys kids;rw[parts,Ob.wt];split
  ·have:=LW n;have:=LW g;simp[Pl.tot];omega
  split
  ·rw[show [91]::(eK kids++[[93]])=[[91]]++(eK kids++[[93]]) from rfl,Pl.cI,Pl.cI];simp[Pl.tot] at *;omega
  split
  ·rw[show [60,60]::(bW keys kids++[[62,62]])=[[60,60]]++(bW keys kids++[[62,62]]) from rfl,Pl.cI,Pl.cI];simp[Pl.tot] at *;omega
  ·have:=RF k n s;simp[Pl.tot];omega
theorem G8:∀os:List Ob,Pl.tot (eK os)≤40*Ob.wts os
|[]=>by simp[eK,Pl.tot]
|o::os=>by
  have:=oR o;have:=G8 os;rw[eK,Ob.wts,Pl.cI];omega
theorem Hd (keys:List (List UInt8)):∀os:List Ob,Pl.tot (bW keys os)≤40*Ob.wts os+3*Pl.tot keys
|[]=>by simp[bW,Pl.tot]
|o::os=>by
  have:=oR o;cases keys with
 |nil=>simp[bW,Pl.tot]
 |cons key ks=>
   have:=Hd ks os;have:=Im key;rw[bW,Ob.wts,show (Pl.xF key).1::(parts o++bW ks os)=[(Pl.xF key).1]++(parts o++bW ks os) from rfl,show key::ks=[key]++ks from rfl,Pl.cI,Pl.cI,Pl.cI];simp[Pl.tot] at *;omega
end
def text (o:Ob):List UInt8×Int:=if Vl.check 1 o≠0 then ([],Vl.check 1 o) else if o.k=9 then ([],10) else (Pl.join (parts o),0)
theorem Ms (o:Ob):(text o).1.length≤40*o.wt:=by
 unfold text;split
 ·simp
 split
 ·simp
 ·have:=Pl.Ey (parts o);have:=oR o;simp only;omega
theorem N7 {d:Nat}{o:Ob}(h:Vl.check d o=0):∀x∈o.kids,Vl.check (d+1) x=0:=by
 rw[Vl.Bo] at h;split at h
 ·rename_i hw;exact absurd h hw
 ·generalize o.kids=os at h ⊢
  induction os with
 |nil=>intro x hx;cases hx
 |cons a os ih=>
   rw[Vl.pS] at h;split at h
   ·rename_i hw;exact absurd h hw
   ·rename_i hw
    intro x hx;rcases List.mem_cons.1 hx with rfl|hx
    ·exact Classical.not_not.1 hw
    ·exact ih h x hx
theorem Gk {d:Nat}{o:Ob}(h:Vl.check d o=0):Vl.why d o=0:=by
 rw[Vl.Bo] at h;split at h
 ·exact h
 ·rename_i hw;exact Classical.not_not.1 hw
end Wr
end
end Go.Proofs.YtoofficgclghoaaGreatDoor

namespace Go.Proofs.YtoofficgclghoaaGreatDoor
section
open Eng
def fP (t0:Value)(w:World)(K:Ending→World→Prop):Prop:=
 DoX prog (mEq .eql 5 (.tmp 3) (.const (.int .u8 40)) t0 (.int .u8 40)) w (pk K) fun t4 w=>
 GDo t4 false (fun E=>E t0 w) w fun t6 w=>
 GDo t4 false (fun E=>DoX prog (mEq .eql 5 (.tmp 6) (.const (.int .u8 41)) t6 (.int .u8 41)) w (pk K) E) w fun t7 w=>
 DoX prog (aL t4 (.bool true) t7) w (pk K) fun t8 w=>
 GDo t8 false (fun E=>E t0 w) w fun t10 w=>
 GDo t8 false (fun E=>DoX prog (mEq .eql 5 (.tmp 10) (.const (.int .u8 60)) t10 (.int .u8 60)) w (pk K) E) w fun t11 w=>
 DoX prog (aL t8 (.bool true) t11) w (pk K) fun t12 w=>
 GDo t12 false (fun E=>E t0 w) w fun t14 w=>
 GDo t12 false (fun E=>DoX prog (mEq .eql 5 (.tmp 14) (.const (.int .u8 62)) t14 (.int .u8 62)) w (pk K) E) w fun t15 w=>
 DoX prog (aL t12 (.bool true) t15) w (pk K) fun t16 w=>
 GDo t16 false (fun E=>E t0 w) w fun t18 w=>
 GDo t16 false (fun E=>DoX prog (mEq .eql 5 (.tmp 18) (.const (.int .u8 91)) t18 (.int .u8 91)) w (pk K) E) w fun t19 w=>
 DoX prog (aL t16 (.bool true) t19) w (pk K) fun t20 w=>
 GDo t20 false (fun E=>E t0 w) w fun t22 w=>
 GDo t20 false (fun E=>DoX prog (mEq .eql 5 (.tmp 22) (.const (.int .u8 93)) t22 (.int .u8 93)) w (pk K) E) w fun t23 w=>
 DoX prog (aL t20 (.bool true) t23) w (pk K) fun t24 w=>
 GDo t24 false (fun E=>E t0 w) w fun t26 w=>
 GDo t24 false (fun E=>DoX prog (mEq .eql 5 (.tmp 26) (.const (.int .u8 123)) t26 (.int .u8 123)) w (pk K) E) w fun t27 w=>
 DoX prog (aL t24 (.bool true) t27) w (pk K) fun t28 w=>
 GDo t28 false (fun E=>E t0 w) w fun t30 w=>
 GDo t28 false (fun E=>DoX prog (mEq .eql 5 (.tmp 30) (.const (.int .u8 125)) t30 (.int .u8 125)) w (pk K) E) w fun t31 w=>
 DoX prog (aL t28 (.bool true) t31) w (pk K) fun t32 w=>
 GDo t32 false (fun E=>E t0 w) w fun t34 w=>
 GDo t32 false (fun E=>DoX prog (mEq .eql 5 (.tmp 34) (.const (.int .u8 47)) t34 (.int .u8 47)) w (pk K) E) w fun t35 w=>
 DoX prog (aL t32 (.bool true) t35) w (pk K) fun t36 w=>
 GDo t36 false (fun E=>E t0 w) w fun t38 w=>
 GDo t36 false (fun E=>DoX prog (mEq .eql 5 (.tmp 38) (.const (.int .u8 37)) t38 (.int .u8 37)) w (pk K) E) w fun t39 w=>
 DoX prog (aL t36 (.bool true) t39) w (pk K) fun t40 w=>
 K (.returned t40) w
theorem uF (t0:Value)(w:World)(K:Ending→World→Prop):wpX prog 41 [] [] none (aK Tryz.f152) (topQ prog [.tmp 2] K) (aJ [t0]) [] w=fP t0 w K:=by kernel_rfl
theorem tE {t0:Value}{w:World}{K:Ending→World→Prop}(h:fP t0 w K):Calls prog 152 #[t0] w K:=
 aA Tryz.func152 rfl rfl rfl rfl (Eq.mpr (uF t0 w K) h)
def eF (t0:Value)(w:World)(K:Ending→World→Prop):Prop:=
 CallX prog 42 #[t0] w (pk K) fun t4 w=>
 DoX prog (mUn .not t4) w (pk K) fun t5 w=>
 GDo t5 true (fun E=>E t0 w) w fun t7 w=>
 GDo t5 true (fun E=>CallX prog 152 #[t7] w (pk K) E) w fun t8 w=>
 GDo t5 true (fun E=>DoX prog (mUn .not t8) w (pk K) E) w fun t9 w=>
 DoX prog (aL t5 t9 (.bool false)) w (pk K) fun t10 w=>
 K (.returned t10) w
theorem qO (t0:Value)(w:World)(K:Ending→World→Prop):wpX prog 11 [] [] none (aK Tryz.f111) (topQ prog [.tmp 2] K) (aJ [t0]) [] w=eF t0 w K:=by kernel_rfl
theorem qB {t0:Value}{w:World}{K:Ending→World→Prop}(h:eF t0 w K):Calls prog 111 #[t0] w K:=
 aA Tryz.func111 rfl rfl rfl rfl (Eq.mpr (qO t0 w K) h)
def fV (t0:Value)(w:World)(K:Ending→World→Prop):Prop:=
 DoX prog (mEq .eql 5 (.tmp 3) (.const (.int .u8 0)) t0 (.int .u8 0)) w (pk K) fun t4 w=>
 GDo t4 false (fun E=>E t0 w) w fun t6 w=>
 GDo t4 false (fun E=>DoX prog (mEq .eql 5 (.tmp 6) (.const (.int .u8 9)) t6 (.int .u8 9)) w (pk K) E) w fun t7 w=>
 DoX prog (aL t4 (.bool true) t7) w (pk K) fun t8 w=>
 GDo t8 false (fun E=>E t0 w) w fun t10 w=>
 GDo t8 false (fun E=>DoX prog (mEq .eql 5 (.tmp 10) (.const (.int .u8 10)) t10 (.int .u8 10)) w (pk K) E) w fun t11 w=>
 DoX prog (aL t8 (.bool true) t11) w (pk K) fun t12 w=>
 GDo t12 false (fun E=>E t0 w) w fun t14 w=>
 GDo t12 false (fun E=>DoX prog (mEq .eql 5 (.tmp 14) (.const (.int .u8 12)) t14 (.int .u8 12)) w (pk K) E) w fun t15 w=>
 DoX prog (aL t12 (.bool true) t15) w (pk K) fun t16 w=>
 GDo t16 false (fun E=>E t0 w) w fun t18 w=>
 GDo t16 false (fun E=>DoX prog (mEq .eql 5 (.tmp 18) (.const (.int .u8 13)) t18 (.int .u8 13)) w (pk K) E) w fun t19 w=>
 DoX prog (aL t16 (.bool true) t19) w (pk K) fun t20 w=>
 GDo t20 false (fun E=>E t0 w) w fun t22 w=>
 GDo t20 false (fun E=>DoX prog (mEq .eql 5 (.tmp 22) (.const (.int .u8 32)) t22 (.int .u8 32)) w (pk K) E) w fun t23 w=>
 DoX prog (aL t20 (.bool true) t23) w (pk K) fun t24 w=>
 K (.returned t24) w
theorem sU (t0:Value)(w:World)(K:Ending→World→Prop):wpX prog 25 [] [] none (aK Tryz.f42) (topQ prog [.tmp 2] K) (aJ [t0]) [] w=fV t0 w K:=by kernel_rfl
theorem sY {t0:Value}{w:World}{K:Ending→World→Prop}(h:fV t0 w K):Calls prog 42 #[t0] w K:=
 aA Tryz.func42 rfl rfl rfl rfl (Eq.mpr (sU t0 w K) h)
end
section
open Eng Go.RowKit
theorem nX (c:UInt8)(w:World):Ret prog 42 #[.int .u8 c.toNat] w (fun v w'=>v=.bool (Oc.gE c)∧w=w'):=by
 refine aO fun K hK=>sY ?_;unfold fV;have e0:=u8d c 0 0 rfl;have e1:=u8d c 9 9 rfl;have e2:=u8d c 10 10 rfl;have e3:=u8d c 12 12 rfl;have e4:=u8d c 13 13 rfl;have e5:=u8d c 32 32 rfl;by_cases h0:c=0
 ·simp only[rs,e0,decide_eq_true h0,g_un];exact hK _ _ ⟨by rw[h0];rfl,rfl⟩
 simp only[rs,e0,decide_eq_false h0,g_un];by_cases h1:c=9
 ·simp only[rs,e1,decide_eq_true h1,g_un];exact hK _ _ ⟨by rw[h1];rfl,rfl⟩
 simp only[rs,e1,decide_eq_false h1,g_un];by_cases h2:c=10
 ·simp only[rs,e2,decide_eq_true h2,g_un];exact hK _ _ ⟨by rw[h2];rfl,rfl⟩
 simp only[rs,e2,decide_eq_false h2,g_un];by_cases h3:c=12
 ·simp only[rs,e3,decide_eq_true h3,g_un];exact hK _ _ ⟨by rw[h3];rfl,rfl⟩
 simp only[rs,e3,decide_eq_false h3,g_un];by_cases h4:c=13
 ·simp only[rs,e4,decide_eq_true h4,g_un];exact hK _ _ ⟨by rw[h4];rfl,rfl⟩
 simp only[rs,e4,decide_eq_false h4,g_un];by_cases h5:c=32
 ·simp only[rs,e5,decide_eq_true h5,g_un];exact hK _ _ ⟨by rw[h5];rfl,rfl⟩
 simp only[rs,e5,decide_eq_false h5,g_un];exact hK _ _ ⟨by simp[Oc.gE,Oc.MC,h0,h1,h2,h3,h4,h5],rfl⟩
theorem Ni (c:UInt8)(w:World):Ret prog 152 #[.int .u8 c.toNat] w (fun v w'=>v=.bool (Oc.K6 c)∧w=w'):=by
 refine aO fun K hK=>tE ?_;unfold fP;have e0:=u8d c 40 40 rfl;have e1:=u8d c 41 41 rfl;have e2:=u8d c 60 60 rfl;have e3:=u8d c 62 62 rfl;have e4:=u8d c 91 91 rfl;have e5:=u8d c 93 93 rfl;have e6:=u8d c 123 123 rfl;have e7:=u8d c 125 125 rfl;have e8:=u8d c 47 47 rfl;have e9:=u8d c 37 37 rfl;by_cases h0:c=40
 ·simp only[rs,e0,decide_eq_true h0,g_un];exact hK _ _ ⟨by rw[h0];rfl,rfl⟩
 simp only[rs,e0,decide_eq_false h0,g_un];by_cases h1:c=41
 ·simp only[rs,e1,decide_eq_true h1,g_un];exact hK _ _ ⟨by rw[h1];rfl,rfl⟩
 simp only[rs,e1,decide_eq_false h1,g_un];by_cases h2:c=60
 ·simp only[rs,e2,decide_eq_true h2,g_un];exact hK _ _ ⟨by rw[h2];rfl,rfl⟩
 simp only[rs,e2,decide_eq_false h2,g_un];by_cases h3:c=62
 ·simp only[rs,e3,decide_eq_true h3,g_un];exact hK _ _ ⟨by rw[h3];rfl,rfl⟩
 simp only[rs,e3,decide_eq_false h3,g_un];by_cases h4:c=91
 ·simp only[rs,e4,decide_eq_true h4,g_un];exact hK _ _ ⟨by rw[h4];rfl,rfl⟩
 simp only[rs,e4,decide_eq_false h4,g_un];by_cases h5:c=93
 ·simp only[rs,e5,decide_eq_true h5,g_un];exact hK _ _ ⟨by rw[h5];rfl,rfl⟩
 simp only[rs,e5,decide_eq_false h5,g_un];by_cases h6:c=123
 ·simp only[rs,e6,decide_eq_true h6,g_un];exact hK _ _ ⟨by rw[h6];rfl,rfl⟩
 simp only[rs,e6,decide_eq_false h6,g_un];by_cases h7:c=125
 ·simp only[rs,e7,decide_eq_true h7,g_un];exact hK _ _ ⟨by rw[h7];rfl,rfl⟩
 simp only[rs,e7,decide_eq_false h7,g_un];by_cases h8:c=47
 ·simp only[rs,e8,decide_eq_true h8,g_un];exact hK _ _ ⟨by rw[h8];rfl,rfl⟩
 simp only[rs,e8,decide_eq_false h8,g_un];by_cases h9:c=37
 ·simp only[rs,e9,decide_eq_true h9,g_un];exact hK _ _ ⟨by rw[h9];rfl,rfl⟩
 simp only[rs,e9,decide_eq_false h9,g_un];exact hK _ _ ⟨by simp[Oc.K6,Oc.ME,h0,h1,h2,h3,h4,h5,h6,h7,h8,h9],rfl⟩
theorem JP (c:UInt8)(w:World):Ret prog 111 #[.int .u8 c.toNat] w (fun v w'=>v=.bool (Oc.regular c)∧w=w'):=by
 refine aO fun K hK=>qB ?_;unfold eF;refine c_eq (nX c w) ?_;cases hw:Oc.gE c with
|true=>simp only[rs];exact hK _ _ ⟨by simp[Oc.regular,hw],rfl⟩
|false=>
  simp only[rs];refine c_eq (Ni c w) ?_;simp only[rs];exact hK _ _ ⟨by simp[Oc.regular,hw],rfl⟩
abbrev BRow (v:Value)(l:List UInt8):Ent:=.row 5 1 v l.length (bS l)
theorem UQ {S:Nat→Prop}{w0 w:World}{L:List Ent}{v:Value}{l m:List UInt8}{parts:Array (Nat×Value)}{n:Nat}{cs:Array Bool}{PK PK2:PKT}{K:VWP}
  (hm:∀w,(aP 66 n parts).run prog w=.ok (.value (.slice (some ⟨w.heap.size,0,none⟩) m.length m.length)) (w.alloc (.cells (bS m).toArray 5)))
  (ho:OwnS S w0 w (BRow v l::L)) (hb:l.length+m.length≤140737488355328) (k:∀v' w',OwnS S w0 w' (BRow v' (l++m)::L)→K v' w') :
  DoX prog (aP 66 n parts) w PK fun t w=>DoX prog (mB .append #[66,66] 66 cs #[v,t]) w PK2 K:=by
 refine dD (fun b=>.slice (some ⟨b,0,none⟩) m.length m.length) (bS m) 5 hm ho fun nb w4 h4=>?_;refine EJ 1 Tryz.underlying66 (show elB prog 5 1 1=true by kernel_rfl) (by decide) h4 rfl (h4.sl 0 rfl 1 m.length m.length (by rw[B5,Nat.mul_one])) (CS _) (by omega) (by omega) fun v' w5 h5=>?_;refine k v' w5 ?_;have e:BRow v' (l++m)=.row 5 1 v' (l.length+m.length) (bS l++bS m):=by
  rw[BRow,jQ,List.length_append]
 rw[e];exact h5.tail
theorem EK {S:Nat→Prop}{w0 w:World}{L:List Ent}{v:Value}{l:List UInt8}{PK:PKT}{K:VWP}(i:Nat)(ho:OwnS S w0 w L)(hi:L[i]?=some (BRow v l)) :
  DoX prog (cP 66 9 v) w PK K=K (.string ⟨l.toArray⟩) w:=
 EZ (l:=l) Tryz.underlying66 Tryz.underlying5 Tryz.underlying9 (ho.Dh i hi)
end
end Go.Proofs.YtoofficgclghoaaGreatDoor

namespace Go.Proofs.YtoofficgclghoaaGreatDoor
section
open Go
namespace Lx
open Oc
def eol (c:UInt8):Bool:=decide (c=13)||decide (c=10)
def cU:Bool→List UInt8→Nat
|_,[]=>0
|true,c::t=>1+cU (!eol c) t
|false,c::t=>if c=37 then 1+cU true t else if gE c then 1+cU false t else 0
def skip (s:List UInt8)(k:Nat):Nat:=k+cU false (s.drop k)
def eM (s:List UInt8)(k:Int):Int:=if k < 0∨(s.length:Int) < k then k else ((skip s k.toNat:Nat):Int)
def cY:List UInt8→Nat
|[]=>0
|c::t=>if c=10 then 1 else if c=13 then (if t.head?=some 10 then 2 else 1) else 1+cY t
def line (s:List UInt8)(k:Nat):Nat:=k+cY (s.drop k)
theorem EF:∀(b:Bool) (l:List UInt8),cU b l≤l.length
|_,[]=>by simp[cU]
|true,c::t=>by have:=EF (!eol c) t;simp only[cU,List.length_cons];omega
|false,c::t=>by
  have h1:=EF true t;have h2:=EF false t;simp only[cU,List.length_cons];split
  ·omega
  ·split<;>omega
theorem Ci:∀l:List UInt8,cY l≤l.length
|[]=>by simp[cY]
|c::t=>by
  have:=Ci t;simp only[cY,List.length_cons];split
  ·omega
  ·split
   ·split
    ·rename_i h
     cases t with
    |nil=>cases h
    |cons d t=>simp
    ·omega
   ·omega
theorem Bz (c:UInt8)(t:List UInt8):1≤cY (c::t):=by
 simp only[cY];split
 ·omega
 ·split
  ·split<;>omega
  ·omega
theorem Ji (s:List UInt8){k:Nat}(h:k≤s.length):skip s k≤s.length:=by
 have:=EF false (s.drop k);rw[List.length_drop] at this;unfold skip;omega
theorem drop_cons {s:List UInt8}{i:Nat}(h:i < s.length):s.drop i=s[i]::s.drop (i+1):=List.drop_eq_getElem_cons h
theorem HD:∀l:List UInt8,cU true l=cY l+cU false (l.drop (cY l))
|[]=>by simp[cU,cY]
|c::t=>by
  have ih:=HD t;by_cases h1:c=10
  ·subst h1;simp[cU,cY,eol]
  ·by_cases h2:c=13
   ·subst h2;simp only[cU,cY,eol,h1,decide_true,Bool.true_or,Bool.not_true,if_true,if_false];cases t with
   |nil=>simp[cU]
   |cons d t=>
     by_cases h3:d=10
     ·subst h3;simp[cU,gE,MC];omega
     ·have:¬(some d=some 10):=by simpa using h3
      simp[this]
   ·have he:eol c=false:=by simp[eol,h1,h2]
    simp only[cU,cY,he,h1,h2,Bool.not_false,if_false];rw[ih,Nat.add_comm 1 (cY t),List.drop_succ_cons];omega
def digit (c:UInt8):Int:=
 if 48≤c.toNat∧c.toNat≤57 then (c.toNat:Int) - 48
 else if 65≤c.toNat∧c.toNat≤70 then (c.toNat:Int) - 65+10
 else if 97≤c.toNat∧c.toNat≤102 then (c.toNat:Int) - 97+10
 else -1
theorem nP (c:UInt8):-1≤digit c∧digit c≤15:=by
 unfold digit;split
 ·omega
 ·split
  ·omega
  ·split<;>omega
def byte (a b:Int):UInt8:=UInt8.ofNat (16*a+b).toNat
def unhex:List UInt8→Option (List UInt8)
|[]=>some []
|[_]=>none
|a::b::t=>if digit a < 0∨digit b < 0 then none else (unhex t).map (byte (digit a) (digit b)::·)
def BC (l:List UInt8):List UInt8×Int:=match unhex l with|some x=>(x,0)|none=>([],3)
end Lx
end
section
open Go
namespace Lx
open Oc
structure Tok where
 k:Int
 a:Int
 t:Int
 n:Int
 s:List UInt8
 deriving DecidableEq
def none_:Tok:=⟨0,0,0,0,[]⟩
def refused (e:Int):Tok×Int:=(none_,e)
def told (k a t:Int)(x:List UInt8)(most:Int):Tok×Int:=if most < (x.length:Int) then refused 5 else (⟨k,a,t,0,x⟩,0)
def runF:List UInt8→Nat
|[]=>0
|c::t=>if regular c then 1+runF t else 0
def run (s:List UInt8)(i:Nat):Nat:=i+runF (s.drop i)
theorem OX:∀l:List UInt8,runF l≤l.length
|[]=>by simp[runF]
|c::t=>by
  have:=OX t;simp only[runF,List.length_cons];split<;>omega
theorem Hs (s:List UInt8){k:Nat}(h:k≤s.length):run s k≤s.length:=by
 have:=OX (s.drop k);rw[List.length_drop] at this;unfold run;omega
def cut (s:List UInt8)(i j:Nat):List UInt8:=(s.drop i).take (j - i)
def dJ:List UInt8→Option (List UInt8)
|[]=>some []
|c::t=>
  if c=35 then match t with
  |a::b::t=>if digit a < 0∨digit b < 0∨16*digit a+digit b=0 then none else (dJ t).map (byte (digit a) (digit b)::·)
  |_=>none
  else (dJ t).map (c::·)
theorem Es {c:UInt8}{t:List UInt8}(h:¬c=35):dJ (c::t)=(dJ t).map (c::·):=by
 cases t with
|nil=>simp[dJ,h]
|cons a t=>cases t<;>simp[dJ,h]
def name (s:List UInt8)(at_:Nat):Tok×Int:=
 match dJ (cut s (at_+1) (run s (at_+1))) with
|none=>refused 3
|some x=>told 4 at_ (run s (at_+1)) x 127
def oct (c:UInt8):Bool:=decide (48≤c.toNat)&&decide (c.toNat≤55)
def octF:Nat→Nat→List UInt8→Nat×Nat
|0,n,_=>(n,0)
|_+1,n,[]=>(n,0)
|m+1,n,c::t=>if oct c then ((octF m (8*n+(c.toNat - 48)) t).1,(octF m (8*n+(c.toNat - 48)) t).2+1) else (n,0)
def escL (c:UInt8):Option UInt8:=if c=110 then some 10 else if c=114 then some 13 else if c=116 then some 9 else if c=98 then some 8 else if c=102 then some 12 else none
def escF:List UInt8→List UInt8×Nat
|[]=>([],0)
|c::t=>match escL c with
 |some b=>([b],1)
 |none=>if eol c then ([],cY (c::t)) else if 0 < (octF 3 0 (c::t)).2 then ([UInt8.ofNat (octF 3 0 (c::t)).1],(octF 3 0 (c::t)).2) else ([c],1)
def bP:Nat→Nat→List UInt8→Option (List UInt8×Nat)
|_,_,[]=>none
|k+1,o,_::t=>(bP k o t).map fun r=>(r.1,r.2+1)
|0,o,c::t=>
  if eol c then (bP (cY (c::t) - 1) o t).map fun r=>(10::r.1,r.2+1)
  else if c=92 then if t=[] then none else (bP (escF t).2 o t).map fun r=>((escF t).1++r.1,r.2+1)
  else if c=40 then (bP 0 (o+1) t).map fun r=>(c::r.1,r.2+1)
  else if c=41 then if o≤1 then some ([],1) else (bP 0 (o - 1) t).map fun r=>(c::r.1,r.2+1)
  else (bP 0 o t).map fun r=>(c::r.1,r.2+1)
theorem CR:∀(k o:Nat) (l:List UInt8),k≤l.length→bP k o l=(bP 0 o (l.drop k)).map fun r=>(r.1,r.2+k)
|0,o,l,_=>by simp
|k+1,o,[],h=>by simp at h
|k+1,o,c::t,h=>by
  have ih:=CR k o t (by simpa using h);simp only[bP,ih,List.drop_succ_cons,Option.map_map]
  congr 1
theorem Qj:∀(m n:Nat) (l:List UInt8),(octF m n l).2≤l.length∧(octF m n l).2≤m
|0,n,l=>by simp[octF]
|m+1,n,[]=>by simp[octF]
|m+1,n,c::t=>by
  have:=Qj m (8*n+(c.toNat - 48)) t;simp only[octF];split<;>simp<;>omega
theorem K4 (l:List UInt8):(escF l).2≤l.length:=by
 cases l with
|nil=>simp[escF]
|cons c t=>
  simp only[escF];split
  ·simp
  ·split
   ·exact Ci _
   ·split
    ·exact (Qj _ _ _).1
    ·simp
def text (s:List UInt8)(at_:Nat):Tok×Int:=
 match bP 0 1 (s.drop (at_+1)) with
|none=>refused 4
|some r=>told 3 at_ (at_+1+r.2:Nat) r.1 32767
def hexF:Int→List UInt8→(List UInt8×Nat) ⊕ Int
|_,[]=>.inr 4
|h,c::t=>
  if c=62 then .inl (if 0≤h then [byte h 0] else [],1)
  else if gE c then match hexF h t with|.inl r=>.inl (r.1,r.2+1)|.inr e=>.inr e
  else if digit c < 0 then .inr 3
  else if h < 0 then match hexF (digit c) t with|.inl r=>.inl (r.1,r.2+1)|.inr e=>.inr e
  else match hexF (-1) t with|.inl r=>.inl (byte h (digit c)::r.1,r.2+1)|.inr e=>.inr e
def hex (s:List UInt8)(at_:Nat):Tok×Int:=
 match hexF (-1) (s.drop (at_+1)) with
|.inr e=>refused e
|.inl r=>told 3 at_ (at_+1+r.2:Nat) r.1 32767
def sgn (c:UInt8):Bool:=decide (c=43)||decide (c=45)
def dig (c:UInt8):Bool:=decide (48≤c.toNat)&&decide (c.toNat≤57)
def bE:List UInt8→List UInt8
|[]=>[]
|c::t=>if sgn c then t else c::t
def cR (t:List UInt8):Bool:=!(bE t).isEmpty&&(bE t).all dig
def val (n:Nat)(l:List UInt8):Nat:=l.foldl (fun n c=>10*n+(c.toNat - 48)) n
def whole (t:List UInt8):Int×Int:=
 if 2147483647 < val 0 (bE t) then (0,2) else (if t.head?=some 45 then -(val 0 (bE t):Int) else (val 0 (bE t):Int),0)
def oL (t:List UInt8)(a b:Int):Tok×Int:=
 if cR t then (if (whole t).2≠0 then refused (whole t).2 else (⟨1,a,b,(whole t).1,[]⟩,0))
 else if t.contains 46∧(Fx.read t).2=0 then (⟨2,a,b,(Fx.read t).1,[]⟩,0)
 else if t.contains 46∧(Fx.read t).2=2 then refused 2
 else told 5 a b t 127
def word (s:List UInt8)(at_:Nat):Tok×Int:=oL (cut s at_ (run s at_)) at_ (run s at_)
def mark (s:List UInt8)(at_ n:Nat):Tok×Int:=(⟨6,at_,(at_+n:Nat),0,cut s at_ (at_+n)⟩,0)
def token (s:List UInt8)(a:Nat):Tok×Int:=
 match s.drop a with
|[]=>(⟨0,a,a,0,[]⟩,0)
|c::t=>
  if c=91∨c=93∨c=123∨c=125 then mark s a 1
  else if c=60 then (if t.head?=some c then mark s a 2 else hex s a)
  else if c=62 then (if t.head?=some c then mark s a 2 else refused 3)
  else if c=47 then name s a
  else if c=40 then text s a
  else if c=41 then refused 3
  else word s a
def next (s:List UInt8)(at_:Int):Tok×Int:=if at_ < 0∨(s.length:Int) < at_ then refused 1 else token s (skip s at_.toNat)
end Lx
end
section
open Go
namespace Lx
open Oc
theorem Qm:∀(l:List UInt8) (h:Int) (r:List UInt8×Nat),hexF h l=.inl r→1≤r.2∧r.2≤l.length
|[],_,r,h=>by rw[hexF] at h;cases h
|c::t,h,r,he=>by
  rw[hexF] at he;have step:∀h',(∀r,hexF h' t=.inl r→1≤r.2∧r.2≤t.length):=fun h' r hr=>Qm t h' r hr;split at he
  ·cases he;simp
  ·split at he
   ·cases hh:hexF h t with
   |inr e=>rw[hh] at he;cases he
   |inl q=>rw[hh] at he;cases he;have:=step _ q hh;simp;omega
   ·split at he
    ·cases he
    ·split at he
     ·cases hh:hexF (digit c) t with
     |inr e=>rw[hh] at he;cases he
     |inl q=>rw[hh] at he;cases he;have:=step _ q hh;simp;omega
     ·cases hh:hexF (-1) t with
     |inr e=>rw[hh] at he;cases he
     |inl q=>rw[hh] at he;cases he;have:=step _ q hh;simp;omega
theorem Br:∀(l:List UInt8) (k o:Nat) (r:List UInt8×Nat),bP k o l=some r→1≤r.2∧r.2≤l.length
|[],k,o,r,h=>by
  cases k<;>(rw[bP] at h;cases h)
|c::t,k+1,o,r,h=>by
  rw[bP] at h;cases hh:bP k o t with
 |none=>rw[hh] at h;cases h
 |some q=>rw[hh] at h;cases h;have:=Br t k o q hh;simp;omega
|c::t,0,o,r,h=>by
  rw[bP] at h;have step:∀(k o:Nat) (f:List UInt8→List UInt8),(bP k o t).map (fun r=>(f r.1,r.2+1))=some r→1≤r.2∧r.2≤(c::t).length:=by
   intro k o f h;cases hh:bP k o t with
  |none=>rw[hh] at h;cases h
  |some q=>rw[hh] at h;cases h;have:=Br t k o q hh;simp;omega
  split at h
  ·exact step _ _ _ h
  ·split at h
   ·split at h
    ·cases h
    ·exact step _ _ _ h
   ·split at h
    ·exact step _ _ (fun x=>c::x) h
    ·split at h
     ·split at h
      ·cases h;simp
      ·exact step _ _ (fun x=>c::x) h
     ·exact step _ _ (fun x=>c::x) h
theorem qF {k a t:Int}{x:List UInt8}{m:Int}(h:(told k a t x m).2=0):told k a t x m=(⟨k,a,t,0,x⟩,0):=by
 unfold told at h ⊢;split
 ·rename_i hh;rw[if_pos hh] at h;cases h
 ·rfl
theorem zY:∀(b:Bool) (l:List UInt8),cU false (l.drop (cU b l))=0
|_,[]=>by simp[cU]
|true,c::t=>by
  simp only[cU];rw[Nat.add_comm,List.drop_succ_cons];exact zY _ t
|false,c::t=>by
  simp only[cU];split
  ·rw[Nat.add_comm,List.drop_succ_cons];exact zY _ t
  ·split
   ·rw[Nat.add_comm,List.drop_succ_cons];exact zY _ t
   ·rename_i h1 h2
    rw[List.drop_zero,cU,if_neg h1,if_neg h2]
theorem JK (s:List UInt8)(k:Nat):cU false (s.drop (skip s k))=0:=by
 have:=zY false (s.drop k);rw[List.drop_drop] at this;exact this
theorem Pc {c:UInt8}{t:List UInt8}(h:cU false (c::t)=0):c≠37∧gE c=false:=by
 rw[cU] at h;split at h
 ·omega
 ·rename_i h1
  split at h
  ·omega
  ·rename_i h2
   exact⟨h1,by simpa using h2⟩
theorem M9 (c:UInt8)(hw:gE c=false)(h1:¬(c=91∨c=93∨c=123∨c=125))(h2:c≠60)(h3:c≠62)(h4:c≠47)(h5:c≠40)(h6:c≠41)(h7:c≠37):regular c=true:=by
 have g1:¬c=91:=fun e=>h1 (.inl e);have g2:¬c=93:=fun e=>h1 (.inr (.inl e));have g3:¬c=123:=fun e=>h1 (.inr (.inr (.inl e)));have g4:¬c=125:=fun e=>h1 (.inr (.inr (.inr e)));simp[regular,hw,K6,ME,g1,g2,g3,g4,h2,h3,h4,h5,h6,h7]
theorem Me {t:List UInt8}{a r:Int}(h:(oL t a r).2=0):(oL t a r).1.k≠0∧(oL t a r).1.a=a∧(oL t a r).1.t=r:=by
 unfold oL at h ⊢;split at h
 ·rename_i h1
  rw[if_pos h1];split at h
  ·rename_i h2;exact absurd h h2
  ·rename_i h2;rw[if_neg h2];exact⟨by simp,rfl,rfl⟩
 ·rename_i h1
  rw[if_neg h1];split at h
  ·rename_i h2;rw[if_pos h2];exact⟨by simp,rfl,rfl⟩
  ·rename_i h2
   rw[if_neg h2];split at h
   ·cases h
   ·rename_i h3
    rw[if_neg h3,qF h];exact⟨by simp,rfl,rfl⟩
theorem Mm {s:List UInt8}{a:Nat}(ha:a < s.length)(hsk:cU false (s.drop a)=0)(h:(token s a).2=0):(token s a).1.k≠0∧(token s a).1.a=a∧(a:Int) < (token s a).1.t∧(token s a).1.t≤s.length:=by
 have hd:=drop_cons ha;have hT:token s a=if s[a]=91∨s[a]=93∨s[a]=123∨s[a]=125 then mark s a 1
  else if s[a]=60 then (if (s.drop (a+1)).head?=some s[a] then mark s a 2 else hex s a)
  else if s[a]=62 then (if (s.drop (a+1)).head?=some s[a] then mark s a 2 else refused 3)
  else if s[a]=47 then name s a
  else if s[a]=40 then text s a
  else if s[a]=41 then refused 3
  else word s a:=by rw[token,hd]
 rw[hd] at hsk;obtain⟨h37,hw⟩:=Pc hsk;have two:(s.drop (a+1)).head?=some s[a]→a+2≤s.length:=by
  intro h;cases hdd:s.drop (a+1) with
 |nil=>rw[hdd] at h;cases h
 |cons x t=>
   have:=congrArg List.length hdd;simp at this;omega
 rw[hT] at h ⊢;by_cases g0:s[a]=91∨s[a]=93∨s[a]=123∨s[a]=125
 ·rw[if_pos g0];exact⟨by simp[mark],rfl,by simp only[mark];omega,by simp only[mark];omega⟩
 rw[if_neg g0] at h ⊢;by_cases g1:s[a]=60
 ·rw[if_pos g1] at h ⊢;by_cases g:(s.drop (a+1)).head?=some s[a]
  ·have:=two g;rw[if_pos g];exact⟨by simp[mark],rfl,by simp only[mark];omega,by simp only[mark];omega⟩
  ·rw[if_neg g] at h ⊢;unfold hex at h ⊢;cases hh:hexF (-1) (s.drop (a+1)) with
  |inr e=>
    rw[hh] at h;exfalso;have:∀(l:List UInt8) (x e:Int),hexF x l=.inr e→e≠0:=by
     intro l
     induction l with
    |nil=>intro x e he;rw[hexF] at he;cases he;decide
    |cons c t ih=>
      intro x e he;rw[hexF] at he;split at he
      ·cases he
      ·split at he
       ·cases hq:hexF x t with
       |inl r=>rw[hq] at he;cases he
       |inr e'=>rw[hq] at he;cases he;exact ih _ _ hq
       ·split at he
        ·cases he;decide
        ·split at he
         ·cases hq:hexF (digit c) t with
         |inl r=>rw[hq] at he;cases he
         |inr e'=>rw[hq] at he;cases he;exact ih _ _ hq
         ·cases hq:hexF (-1) t with
         |inl r=>rw[hq] at he;cases he
         |inr e'=>rw[hq] at he;cases he;exact ih _ _ hq
    exact this _ _ _ hh h
  |inl r=>
    rw[hh] at h;simp only at h ⊢;have:=Qm _ _ _ hh;rw[List.length_drop] at this;rw[qF h];exact⟨by simp,rfl,by simp only;omega,by simp only;omega⟩
 rw[if_neg g1] at h ⊢;by_cases g2:s[a]=62
 ·rw[if_pos g2] at h ⊢;by_cases g:(s.drop (a+1)).head?=some s[a]
  ·have:=two g;rw[if_pos g];exact⟨by simp[mark],rfl,by simp only[mark];omega,by simp only[mark];omega⟩
  ·rw[if_neg g] at h;cases h
 rw[if_neg g2] at h ⊢;by_cases g3:s[a]=47
 ·rw[if_pos g3] at h ⊢;have hto:=Hs s (show a+1≤s.length by omega);have hto2:a+1≤run s (a+1):=by unfold run;omega
  unfold name at h ⊢;cases hh:dJ (cut s (a+1) (run s (a+1))) with
 |none=>rw[hh] at h;cases h
 |some x=>
   rw[hh] at h;simp only at h ⊢;rw[qF h];exact⟨by simp,rfl,by simp only;omega,by simp only;omega⟩
 rw[if_neg g3] at h ⊢;by_cases g4:s[a]=40
 ·rw[if_pos g4] at h ⊢;unfold text at h ⊢;cases hh:bP 0 1 (s.drop (a+1)) with
 |none=>rw[hh] at h;cases h
 |some r=>
   rw[hh] at h;simp only at h ⊢;have:=Br _ _ _ _ hh;rw[List.length_drop] at this;rw[qF h];exact⟨by simp,rfl,by simp only;omega,by simp only;omega⟩
 rw[if_neg g4] at h ⊢;by_cases g5:s[a]=41
 ·rw[if_pos g5] at h;cases h
 rw[if_neg g5] at h ⊢;have hreg:=M9 s[a] hw g0 g1 g2 g3 g4 g5 h37;have hto:=Hs s (show a≤s.length by omega);have hto2:a < run s a:=by unfold run;rw[hd,runF,if_pos hreg];omega
 obtain⟨k1,k2,k3⟩:=Me h;exact⟨k1,k2,by rw[show (word s a).1.t=_ from k3];omega,by rw[show (word s a).1.t=_ from k3];omega⟩
theorem bV {s:List UInt8}{i:Int}(h:(next s i).2=0)(hk:(next s i).1.k≠0):0≤i∧i≤s.length∧(next s i).1.a=skip s i.toNat∧(next s i).1.a < (next s i).1.t∧(next s i).1.t≤s.length:=by
 unfold next at h hk ⊢
 split
 ·rename_i hh;rw[if_pos hh] at h;cases h
 ·rename_i hh
  rw[if_neg hh] at h hk;have hle:=Ji s (k:=i.toNat) (by omega);rcases Nat.lt_or_ge (skip s i.toNat) s.length with h1|h1
  ·have:=Mm h1 (JK s i.toNat) h;exact⟨by omega,by omega,this.2.1,by rw[this.2.1];exact this.2.2.1,this.2.2.2⟩
  ·exfalso;rw[token,List.drop_eq_nil_of_le h1] at hk;exact hk rfl
theorem cO (s:List UInt8)(k:Nat):k≤skip s k:=by unfold skip;omega
end Lx
end
section
open Go
namespace Lx
open Oc
theorem take_cons {c:UInt8}{t:List UInt8}{n:Nat}(h:1≤n):(c::t).take n=c::t.take (n - 1):=by
 obtain⟨m,rfl⟩:∃m,n=m+1:=⟨n - 1,by omega⟩;rfl
theorem MW:∀(l:List UInt8) (k o:Nat) (r:List UInt8×Nat),bP k o l=some r→k+1≤r.2
|[],k,o,r,h=>by cases k<;>(rw[bP] at h;cases h)
|c::t,0,o,r,h=>by have:=Br _ _ _ _ h;omega
|c::t,k+1,o,r,h=>by
  rw[bP] at h;cases hh:bP k o t with
 |none=>rw[hh] at h;cases h
 |some q=>rw[hh] at h;cases h;have:=MW t k o q hh;simp;omega
theorem map_some {α β:Type}{f:α→β}{x:Option α}{r:β}(h:x.map f=some r):∃q,x=some q∧r=f q:=by
 cases x with
|none=>cases h
|some q=>cases h;exact⟨q,rfl,rfl⟩
theorem Jo:∀l:List UInt8,(l.take (runF l)).all regular=true∧runF (l.take (runF l))=runF l
|[]=>by simp[runF]
|c::t=>by
  obtain⟨i1,i2⟩:=Jo t;simp only[runF];by_cases h:regular c=true
  ·rw[if_pos h,take_cons (by omega),Nat.add_sub_cancel_left];simp only[runF,i2,List.all_cons,h,i1,Bool.and_self,if_true,and_self]
  ·rw[if_neg h];simp[runF]
theorem RU {s:List UInt8}{i:Int}(h0:0≤i)(h1:i≤s.length)(h:(next s i).2=0)(hk:(next s i).1.k=0):skip s i.toNat=s.length:=by
 unfold next at h hk
 rw[if_neg (by omega)] at h hk;have hle:=Ji s (k:=i.toNat) (by omega);rcases Nat.lt_or_ge (skip s i.toNat) s.length with h2|h2
 ·exact absurd hk (Mm h2 (JK s i.toNat) h).1
 ·omega
end Lx
end
section
open Go
namespace Lx
open Oc
theorem all8 {p:UInt8→Prop}(h:∀n:Fin 256,p (UInt8.ofNat n.val))(c:UInt8):p c:=by
 have:=h ⟨c.toNat,c.toNat_lt⟩;simpa using this
end Lx
end
end Go.Proofs.YtoofficgclghoaaGreatDoor


namespace Go.Proofs.YtoofficgclghoaaGreatDoor
section
open Go
namespace Lx
open Oc
theorem Ir {t m:List UInt8}(h:t≠[]):(t++m).head?=t.head?:=by
 cases t with
|nil=>exact absurd rfl h
|cons=>rfl
theorem Jv {c:UInt8}{t:List UInt8}(m:List UInt8)(he:eol c=true)(h:t≠[]):cY (c::(t++m))=cY (c::t):=by
 simp only[cY,Ir h];by_cases h1:c=10
 ·simp[h1]
 ·by_cases h2:c=13
  ·simp[h2]
  ·simp[eol,h1,h2] at he
theorem Mx:∀(k n:Nat) (l m:List UInt8),(octF k n l).2+1≤l.length→octF k n (l++m)=octF k n l
|0,n,l,m,h=>by simp[octF]
|k+1,n,[],m,h=>by simp at h
|k+1,n,c::t,m,h=>by
  rw[List.cons_append];simp only[octF] at h ⊢;by_cases ho:oct c=true
  ·rw[if_pos ho] at h ⊢;rw[if_pos ho];simp only[List.length_cons] at h;rw[Mx k _ t m (by omega)]
  ·rw[if_neg ho,if_neg ho]
theorem R7 {l:List UInt8}(m:List UInt8)(h:(escF l).2+1≤l.length):escF (l++m)=escF l:=by
 cases l with
|nil=>simp at h
|cons c t=>
  rw[List.cons_append];simp only[escF,List.length_cons] at h ⊢;cases hl:escL c with
 |some b=>rfl
 |none=>
   simp only[hl] at h ⊢;by_cases he:eol c=true
   ·rw[if_pos he] at h ⊢;rw[if_pos he];have hp:=Bz c t;simp only at h;rw[Jv m he (by intro e;subst e;simp at h;omega)]
   ·rw[if_neg he] at h ⊢;rw[if_neg he];have h3:(octF 3 0 (c::t)).2+1≤(c::t).length:=by
     by_cases h0:0 < (octF 3 0 (c::t)).2
     ·rw[if_pos h0] at h;rw[List.length_cons];exact h
     ·rw[List.length_cons];omega
    have ht:=Mx 3 0 (c::t) m h3;rw[List.cons_append] at ht;rw[ht]
theorem oQ:∀(l:List UInt8) (k o:Nat) (r:List UInt8×Nat) (m:List UInt8),bP k o l=some r→bP k o (l++m)=some r
|[],k,o,r,m,h=>by cases k<;>(rw[bP] at h;cases h)
|c::t,k+1,o,r,m,h=>by
  rw[bP] at h;obtain⟨q,hq,rfl⟩:=map_some h;rw[List.cons_append,bP,oQ t k o q m hq];rfl
|c::t,0,o,r,m,h=>by
  rw[List.cons_append];rw[bP] at h ⊢;have ne:∀k o q,bP k o t=some q→t≠[]:=by
   intro k o q hq e;subst e;cases k<;>(rw[bP] at hq;cases hq)
  by_cases g1:eol c=true
  ·rw[if_pos g1] at h ⊢;obtain⟨q,hq,rfl⟩:=map_some h;rw[Jv m g1 (ne _ _ _ hq),oQ t _ o q m hq];rfl
  ·rw[if_neg g1] at h ⊢;by_cases g2:c=92
   ·rw[if_pos g2] at h ⊢;by_cases g3:t=[]
    ·rw[if_pos g3] at h;cases h
    ·rw[if_neg g3] at h;obtain⟨q,hq,rfl⟩:=map_some h;have h2:=MW _ _ _ _ hq;have h3:=Br _ _ _ _ hq;rw[R7 m (by omega),oQ t _ o q m hq,if_neg (by simp[g3])];rfl
   ·rw[if_neg g2] at h ⊢;by_cases g4:c=40
    ·rw[if_pos g4] at h ⊢;obtain⟨q,hq,rfl⟩:=map_some h;rw[oQ t _ _ q m hq];rfl
    ·rw[if_neg g4] at h ⊢;by_cases g5:c=41
     ·rw[if_pos g5] at h ⊢;by_cases g6:o≤1
      ·rw[if_pos g6] at h ⊢;exact h
      ·rw[if_neg g6] at h ⊢;obtain⟨q,hq,rfl⟩:=map_some h;rw[oQ t _ _ q m hq];rfl
     ·rw[if_neg g5] at h ⊢;obtain⟨q,hq,rfl⟩:=map_some h;rw[oQ t _ _ q m hq];rfl
theorem Mv:∀(l:List UInt8) (h:Int) (r:List UInt8×Nat) (m:List UInt8),hexF h l=.inl r→hexF h (l++m)=.inl r
|[],_,r,m,h=>by rw[hexF] at h;cases h
|c::t,h,r,m,he=>by
  rw[List.cons_append];rw[hexF] at he ⊢;have step:∀(h':Int) (f:List UInt8→List UInt8),(match hexF h' t with|.inl r=>(Sum.inl (f r.1,r.2+1):(List UInt8×Nat) ⊕ Int)|.inr e=>.inr e)=.inl r →
    (match hexF h' (t++m) with|.inl r=>(Sum.inl (f r.1,r.2+1):(List UInt8×Nat) ⊕ Int)|.inr e=>.inr e)=.inl r:=by
   intro h' f hh;cases hq:hexF h' t with
  |inr e=>rw[hq] at hh;cases hh
  |inl q=>
    rw[hq] at hh;cases hh;rw[Mv t h' q m hq]
  by_cases g1:c=62
  ·rw[if_pos g1] at he ⊢;exact he
  ·rw[if_neg g1] at he ⊢;by_cases g2:gE c=true
   ·rw[if_pos g2] at he ⊢;exact step h (fun x=>x) he
   ·rw[if_neg g2] at he ⊢;by_cases g3:digit c < 0
    ·rw[if_pos g3] at he;cases he
    ·rw[if_neg g3] at he ⊢;by_cases g4:h < 0
     ·rw[if_pos g4] at he ⊢;exact step (digit c) (fun x=>x) he
     ·rw[if_neg g4] at he ⊢;exact step (-1) (fun x=>byte h (digit c)::x) he
def Ks (u:List UInt8)(x:Tok):Prop:=next u 0=(x,0)∧x.k≠0∧x.a=0∧x.t=u.length
def gap (last:UInt8)(p:List UInt8):List UInt8:=if (regular last||decide (last=47))&&(p.head?.any regular) then [32] else []
def U7:UInt8→List (List UInt8)→List UInt8
|_,[]=>[]
|last,p::ps=>gap last p++(p++U7 (Pl.pM p) ps)
end Lx
end
end Go.Proofs.YtoofficgclghoaaGreatDoor



namespace Go.Proofs.YtoofficgclghoaaGreatDoor
section
open Eng
def tG (t0:Value)(w:World)(K:Ending→World→Prop):Prop:=
 DoX prog (mBin .geq 5 t0 (.int .u8 48)) w (pk K) fun t5 w=>
 GDo t5 true (fun E=>E t0 w) w fun t7 w=>
 GDo t5 true (fun E=>DoX prog (mBin .leq 5 t7 (.int .u8 57)) w (pk K) E) w fun t8 w=>
 DoX prog (aL t5 t8 (.bool false)) w (pk K) fun t9 w=>
 IfX t9 (DoX prog (mBin .sub 5 t0 (.int .u8 48)) w (pk K) fun t11 w=>
 DoX prog (cP 5 3 t11) w (pk K) fun t12 w=>
 K (.returned t12) w) (DoX prog (mBin .geq 5 t0 (.int .u8 65)) w (pk K) fun t15 w=>
 GDo t15 true (fun E=>E t0 w) w fun t17 w=>
 GDo t15 true (fun E=>DoX prog (mBin .leq 5 t17 (.int .u8 70)) w (pk K) E) w fun t18 w=>
 DoX prog (aL t15 t18 (.bool false)) w (pk K) fun t19 w=>
 IfX t19 (DoX prog (mBin .sub 5 t0 (.int .u8 65)) w (pk K) fun t21 w=>
 DoX prog (cP 5 3 t21) w (pk K) fun t22 w=>
 DoX prog (mBin .add 3 t22 (.int .i64 10)) w (pk K) fun t23 w=>
 K (.returned t23) w) (DoX prog (mBin .geq 5 t0 (.int .u8 97)) w (pk K) fun t26 w=>
 GDo t26 true (fun E=>E t0 w) w fun t28 w=>
 GDo t26 true (fun E=>DoX prog (mBin .leq 5 t28 (.int .u8 102)) w (pk K) E) w fun t29 w=>
 DoX prog (aL t26 t29 (.bool false)) w (pk K) fun t30 w=>
 IfX t30 (DoX prog (mBin .sub 5 t0 (.int .u8 97)) w (pk K) fun t32 w=>
 DoX prog (cP 5 3 t32) w (pk K) fun t33 w=>
 DoX prog (mBin .add 3 t33 (.int .i64 10)) w (pk K) fun t34 w=>
 K (.returned t34) w) (K (.returned (.int .i64 (-1))) w)))
theorem DO (t0:Value)(w:World)(K:Ending→World→Prop):wpX prog 35 [] [] none (aK Tryz.f139) (topQ prog [.tmp 2] K) (aJ [t0]) [] w=tG t0 w K:=by kernel_rfl
theorem DZ {t0:Value}{w:World}{K:Ending→World→Prop}(h:tG t0 w K):Calls prog 139 #[t0] w K:=
 aA Tryz.func139 rfl rfl rfl rfl (Eq.mpr (DO t0 w K) h)
def yP (t0 t4 t5:Value)(w:World)(N1:List Value→World→Prop)(K:Ending→World→Prop):Prop:=
 DoX prog (mB .len #[9] 3 #[false] #[t0]) w (pk K) fun t18 w=>
 DoX prog (mBin .lss 3 t5 t18) w (pk K) fun t19 w=>
 IfX t19 (QuietX w (fun C2=>
 QDo prog C2 (mIx 9 t0 t5) fun t24=>
 QCall prog C2 139 #[t24] fun t25=>
 QDo prog C2 (mBin .add 3 t5 (.int .i64 1)) fun t28=>
 QDo prog C2 (mIx 9 t0 t28) fun t29=>
 QCall prog C2 139 #[t29] fun t30=>
 ∀w,C2 w →
 DoX prog (mBin .lss 3 t25 (.int .i64 0)) w (pk K) fun t32 w=>
 GDo t32 false (fun E=>E t30 w) w fun t34 w=>
 GDo t32 false (fun E=>DoX prog (mBin .lss 3 t34 (.int .i64 0)) w (pk K) E) w fun t35 w=>
 DoX prog (aL t32 (.bool true) t35) w (pk K) fun t36 w=>
 IfX t36 (K (.returned (.tuple #[(.string ⟨#[]⟩),(.int .i64 3)])) w) (DoX prog (mBin .shl 3 t25 (.int .u64 4)) w (pk K) fun t39 w=>
 DoX prog (mBin .or 3 t39 t30) w (pk K) fun t41 w=>
 DoX prog (cP 3 5 t41) w (pk K) fun t42 w=>
 DoX prog (aP 66 1 #[(0,t42)]) w (pk K) fun t43 w=>
 DoX prog (mB .append #[66,66] 66 #[false,false] #[t4,t43]) w (pk K) fun t44 w=>
 DoX prog (mBin .add 3 t5 (.int .i64 2)) w (pk K) fun t21 w=>
 N1 [t44,t21] w))) (DoX prog (cP 66 9 t4) w (pk K) fun t46 w=>
 K (.returned (.tuple #[t46,(.int .i64 0)])) w)
def sJ (t0:Value)(w:World)(K:Ending→World→Prop):Prop:=
 DoX prog (mB .len #[9] 3 #[false] #[t0]) w (pk K) fun t9 w=>
 DoX prog (mBin .rem 3 t9 (.int .i64 2)) w (pk K) fun t10 w=>
 DoX prog (mEq .neq 3 (.tmp 10) (.const (.int .i64 0)) t10 (.int .i64 0)) w (pk K) fun t11 w=>
 IfX t11 (K (.returned (.tuple #[(.string ⟨#[]⟩),(.int .i64 3)])) w) (DoX prog (mB .len #[9] 3 #[false] #[t0]) w (pk K) fun t13 w=>
 DoX prog (mBin .quo 3 t13 (.int .i64 2)) w (pk K) fun t14 w=>
 DoX prog (Ri 66 (.int .i64 0) t14) w (pk K) fun t15 w=>
 LoopX [t15,(.int .i64 0)] w (fun vs1 w N1=>∀_:Sg,yP t0 (vs1.getD 0 undef) (vs1.getD 1 undef) w N1 K))
theorem Ei (t0:Value)(w:World)(K:Ending→World→Prop):wpX prog 47 [] [(5,[4,5])] none (aK Tryz.f141) (topQ prog [.tmp 2,.tmp 3] K) (aJ [t0]) [] w=sJ t0 w K:=by kernel_rfl
theorem Ef {t0:Value}{w:World}{K:Ending→World→Prop}(h:sJ t0 w K):Calls prog 141 #[t0] w K:=
 aA Tryz.func141 rfl rfl rfl rfl (Eq.mpr (Ei t0 w K) h)
def qI (t0 t1 t2:Value)(w:World)(K:Ending→World→Prop):Prop:=
 DoX prog (mBin .geq 3 t2 (.int .i64 0)) w (pk K) fun t8 w=>
 GDo t8 true (fun E=>E t2 w) w fun t10 w=>
 GDo t8 true (fun E=>E t0 w) w fun t11 w=>
 GDo t8 true (fun E=>DoX prog (mB .len #[9] 3 #[false] #[t11]) w (pk K) E) w fun t12 w=>
 GDo t8 true (fun E=>DoX prog (mBin .leq 3 t10 t12) w (pk K) E) w fun t13 w=>
 DoX prog (aL t8 t13 (.bool false)) w (pk K) fun t14 w=>
 GDo t14 true (fun E=>E t0 w) w fun t16 w=>
 GDo t14 true (fun E=>E t2 w) w fun t17 w=>
 GDo t14 true (fun E=>DoX prog (bT 9 t16 (some t17) none none) w (pk K) E) w fun t18 w=>
 GDo t14 true (fun E=>E t1 w) w fun t19 w=>
 GDo t14 true (fun E=>CallX prog 137 #[t18,t19] w (pk K) E) w fun t20 w=>
 DoX prog (aL t14 t20 (.bool false)) w (pk K) fun t21 w=>
 K (.returned t21) w
theorem Cv (t0 t1 t2:Value)(w:World)(K:Ending→World→Prop):wpX prog 22 [] [] none (aK Tryz.f100) (topQ prog [.tmp 6] K) (aJ [t0,t1,t2]) [] w=qI t0 t1 t2 w K:=by kernel_rfl
theorem Cq {t0 t1 t2:Value}{w:World}{K:Ending→World→Prop}(h:qI t0 t1 t2 w K):Calls prog 100 #[t0,t1,t2] w K:=
 aA Tryz.func100 rfl rfl rfl rfl (Eq.mpr (Cv t0 t1 t2 w K) h)
def As (t1 t5:Value)(w:World)(N1:List Value→World→Prop)(K:Ending→World→Prop):Prop:=
 DoX prog (mBin .add 3 t1 (.int .i64 1)) w (pk K) fun t21 w=>
 N1 [t21,t5] w
def Ax (t0 t1 t5:Value)(w:World)(N1:List Value→World→Prop)(K:Ending→World→Prop):Prop:=
 DoX prog (mB .len #[9] 3 #[false] #[t0]) w (pk K) fun t18 w=>
 DoX prog (mBin .lss 3 t1 t18) w (pk K) fun t19 w=>
 IfX t19 (JoinX (fun J2=>
 DoX prog (mIx 9 t0 t1) w (pk K) fun t24 w=>
 IfX t5 (CallX prog 106 #[t24] w (pk K) fun t28 w=>
 DoX prog (mUn .not t28) w (pk K) fun t29 w=>
 J2 [t29] w) (DoX prog (mEq .eql 5 (.tmp 31) (.const (.int .u8 37)) t24 (.int .u8 37)) w (pk K) fun t32 w=>
 IfX t32 (J2 [(.bool true)] w) (CallX prog 90 #[t24] w (pk K) fun t35 w=>
 DoX prog (mUn .not t35) w (pk K) fun t36 w=>
 IfX t36 (K (.returned t1) w) (J2 [t5] w)))) (fun vs2 w=>∀_:Sg,As t1 (vs2.getD 0 undef) w N1 K)) (DoX prog (mB .len #[9] 3 #[false] #[t0]) w (pk K) fun t39 w=>
 K (.returned t39) w)
def zK (t0 t1:Value)(w:World)(K:Ending→World→Prop):Prop:=
 DoX prog (mBin .lss 3 t1 (.int .i64 0)) w (pk K) fun t8 w=>
 GDo t8 false (fun E=>E t1 w) w fun t10 w=>
 GDo t8 false (fun E=>E t0 w) w fun t11 w=>
 GDo t8 false (fun E=>DoX prog (mB .len #[9] 3 #[false] #[t11]) w (pk K) E) w fun t12 w=>
 GDo t8 false (fun E=>DoX prog (mBin .gtr 3 t10 t12) w (pk K) E) w fun t13 w=>
 DoX prog (aL t8 (.bool true) t13) w (pk K) fun t14 w=>
 IfX t14 (K (.returned t1) w) (LoopX [t1,(.bool false)] w (fun vs1 w N1=>∀_:Sg,Ax t0 (vs1.getD 0 undef) (vs1.getD 1 undef) w N1 K))
theorem Gq (t0 t1:Value)(w:World)(K:Ending→World→Prop):wpX prog 40 [(5,[5])] [(4,[1,5])] none (aK Tryz.f62) (topQ prog [.tmp 4] K) (aJ [t0,t1]) [] w=zK t0 t1 w K:=by kernel_rfl
theorem FW {t0 t1:Value}{w:World}{K:Ending→World→Prop}(h:zK t0 t1 w K):Calls prog 62 #[t0,t1] w K:=
 aA Tryz.func62 rfl rfl rfl rfl (Eq.mpr (Gq t0 t1 w K) h)
def AB (t0 t1:Value)(w:World)(N1:List Value→World→Prop)(K:Ending→World→Prop):Prop:=
 DoX prog (mB .len #[9] 3 #[false] #[t0]) w (pk K) fun t16 w=>
 DoX prog (mBin .lss 3 t1 t16) w (pk K) fun t17 w=>
 IfX t17 (DoX prog (mIx 9 t0 t1) w (pk K) fun t22 w=>
 DoX prog (mEq .eql 5 (.tmp 22) (.const (.int .u8 10)) t22 (.int .u8 10)) w (pk K) fun t24 w=>
 IfX t24 (DoX prog (mBin .add 3 t1 (.int .i64 1)) w (pk K) fun t26 w=>
 K (.returned t26) w) (DoX prog (mEq .eql 5 (.tmp 22) (.const (.int .u8 13)) t22 (.int .u8 13)) w (pk K) fun t28 w=>
 IfX t28 (CallX prog 100 #[t0,(.string ⟨#[13,10]⟩),t1] w (pk K) fun t31 w=>
 IfX t31 (DoX prog (mBin .add 3 t1 (.int .i64 2)) w (pk K) fun t33 w=>
 K (.returned t33) w) (DoX prog (mBin .add 3 t1 (.int .i64 1)) w (pk K) fun t35 w=>
 K (.returned t35) w)) (DoX prog (mBin .add 3 t1 (.int .i64 1)) w (pk K) fun t19 w=>
 N1 [t19] w))) (DoX prog (mB .len #[9] 3 #[false] #[t0]) w (pk K) fun t37 w=>
 K (.returned t37) w)
def yU (t0 t1:Value)(w:World)(K:Ending→World→Prop):Prop:=
 DoX prog (mBin .lss 3 t1 (.int .i64 0)) w (pk K) fun t6 w=>
 GDo t6 false (fun E=>E t1 w) w fun t8 w=>
 GDo t6 false (fun E=>E t0 w) w fun t9 w=>
 GDo t6 false (fun E=>DoX prog (mB .len #[9] 3 #[false] #[t9]) w (pk K) E) w fun t10 w=>
 GDo t6 false (fun E=>DoX prog (mBin .gtr 3 t8 t10) w (pk K) E) w fun t11 w=>
 DoX prog (aL t6 (.bool true) t11) w (pk K) fun t12 w=>
 IfX t12 (K (.returned t1) w) (LoopX [t1] w (fun vs1 w N1=>∀_:Sg,AB t0 (vs1.getD 0 undef) w N1 K))
theorem Gb (t0 t1:Value)(w:World)(K:Ending→World→Prop):wpX prog 38 [] [(3,[1])] none (aK Tryz.f162) (topQ prog [.tmp 4] K) (aJ [t0,t1]) [] w=yU t0 t1 w K:=by kernel_rfl
theorem Fm {t0 t1:Value}{w:World}{K:Ending→World→Prop}(h:yU t0 t1 w K):Calls prog 162 #[t0,t1] w K:=
 aA Tryz.func162 rfl rfl rfl rfl (Eq.mpr (Gb t0 t1 w K) h)
def xI (t0:Value)(w:World)(K:Ending→World→Prop):Prop:=
 DoX prog (mEq .eql 5 (.tmp 3) (.const (.int .u8 13)) t0 (.int .u8 13)) w (pk K) fun t4 w=>
 GDo t4 false (fun E=>E t0 w) w fun t6 w=>
 GDo t4 false (fun E=>DoX prog (mEq .eql 5 (.tmp 6) (.const (.int .u8 10)) t6 (.int .u8 10)) w (pk K) E) w fun t7 w=>
 DoX prog (aL t4 (.bool true) t7) w (pk K) fun t8 w=>
 K (.returned t8) w
theorem EV (t0:Value)(w:World)(K:Ending→World→Prop):wpX prog 9 [] [] none (aK Tryz.f106) (topQ prog [.tmp 2] K) (aJ [t0]) [] w=xI t0 w K:=by kernel_rfl
theorem F5 {t0:Value}{w:World}{K:Ending→World→Prop}(h:xI t0 w K):Calls prog 106 #[t0] w K:=
 aA Tryz.func106 rfl rfl rfl rfl (Eq.mpr (EV t0 w K) h)
end
section
open Eng Go.RowKit
theorem QB (c:UInt8)(w:World):Ret prog 106 #[.int .u8 c.toNat] w (fun v w'=>v=.bool (Lx.eol c)∧w=w'):=by
 refine aO fun K hK=>F5 ?_;unfold xI;have e1:=u8d c 13 13 rfl;have e2:=u8d c 10 10 rfl;by_cases h1:c=13
 ·simp only[rs,e1,decide_eq_true h1,g_un];exact hK _ _ ⟨by simp[Lx.eol,h1],rfl⟩
 simp only[rs,e1,decide_eq_false h1,g_un,e2];exact hK _ _ ⟨by simp[Lx.eol,h1],rfl⟩
def bB (s p:List UInt8)(k:Int):Bool:=decide (0≤k)&&decide (k≤(s.length:Int))&&p.isPrefixOf (s.drop k.toNat)
theorem CT (s p:List UInt8)(k:Int)(w:World):Ret prog 100 #[.string ⟨s.toArray⟩,.string ⟨p.toArray⟩,.int .i64 k] w (fun v w'=>v=.bool (bB s p k)∧w=w'):=by
 refine aO fun K hK=>Cq ?_;unfold qI;by_cases h1:0≤k
 ·simp only[rs,h1,decide_true,bD Tryz.underlying9];by_cases h2:k≤(s.length:Int)
  ·simp only[rs,h2,decide_true];rw[B2 Tryz.underlying9 h1 h2];refine c_eq (tT _ p w) ?_;exact hK _ _ ⟨by simp[bB,h1,h2],rfl⟩
  ·simp only[rs,h2,decide_false,g_un];exact hK _ _ ⟨by simp[bB,h2],rfl⟩
 ·simp only[rs,h1,decide_false,g_un];exact hK _ _ ⟨by simp[bB,h1],rfl⟩
theorem FU (s:List UInt8)(k:Nat)(hk:k < s.length)(h:s[k]=13):bB s [13,10] (k:Int)=decide ((s.drop (k+1)).head?=some 10):=by
 unfold bB;rw[Int.toNat_natCast,Lx.drop_cons hk,h,decide_eq_true (by omega),decide_eq_true (by omega)];cases hd:s.drop (k+1) with
|nil=>simp
|cons d t=>
  by_cases h10:d=10
  ·subst h10;simp
  ·have:¬(10=d):=fun e=>h10 e.symm;have h11:((10:UInt8)==d)=false:=by simp[this]
   have h12:¬(some d=some (10:UInt8)):=by simpa using h10
   rw[List.head?_cons,decide_eq_false h12];simp[List.isPrefixOf,h11]
theorem Rv (s:List UInt8)(k:Nat)(w:World)(hk:k≤s.length)(hs:s.length≤4611686018427387904):Ret prog 162 #[.string ⟨s.toArray⟩,.int .i64 k] w (fun v w'=>v=.int .i64 (Lx.line s k)∧w=w'):=by
 refine aO fun K hK=>Fm ?_;unfold yU;have h0:¬((k:Int) < 0):=by omega
 have h1:¬((s.length:Int) < (k:Int)):=by omega
 simp only[rs,h0,h1,decide_false,bD Tryz.underlying9];refine loop (fun vs w'=>∃(i:Nat),vs=[.int .i64 i]∧i≤s.length∧Lx.line s i=Lx.line s k∧w=w') (fun vs _=>s.length - n0 vs) ⟨k,rfl,hk,rfl,rfl⟩ ?_;rintro vs w2 ⟨i,rfl,hi,he,rfl⟩ _;simp only[AB,gd,bD Tryz.underlying9];rw[rF];by_cases hlt:(i:Int) < (s.length:Int)
 ·have hi2:i < s.length:=by omega
  simp only[hlt,decide_true,i_t];rw[s_ix (c:=s[i]) Tryz.underlying9 (by omega) (by simp[hi2])];have hd:=Lx.drop_cons hi2;have e1:=u8d s[i] 10 10 rfl;have e2:=u8d s[i] 13 13 rfl;by_cases g1:s[i]=10
  ·simp only[rs,e1,decide_eq_true g1];rw[aC (by omega) (by omega)];refine hK _ _ ⟨?_,rfl⟩;rw[←he,Lx.line,hd,Lx.cY,if_pos g1];simp
  simp only[rs,e1,decide_eq_false g1];by_cases g2:s[i]=13
  ·simp only[rs,e2,decide_eq_true g2];refine c_eq (CT s [13,10] i w) ?_;rw[FU s i hi2 g2];by_cases g3:(s.drop (i+1)).head?=some 10
   ·simp only[decide_eq_true g3,i_t];rw[aC (by omega) (by omega)];refine hK _ _ ⟨?_,rfl⟩;rw[←he,Lx.line,hd,Lx.cY,if_neg g1,if_pos g2,if_pos g3];simp
   ·simp only[decide_eq_false g3,i_f];rw[aC (by omega) (by omega)];refine hK _ _ ⟨?_,rfl⟩;rw[←he,Lx.line,hd,Lx.cY,if_neg g1,if_pos g2,if_neg g3];simp
  simp only[rs,e2,decide_eq_false g2];rw[aC (by omega) (by omega)];refine bG ⟨i+1,rfl,by omega,?_,rfl⟩ (by simp[n0,RowKit.intOf];omega);rw[←he];simp only[Lx.line];rw[hd,Lx.cY,if_neg g1,if_neg g2];omega
 ·have hi2:i=s.length:=by omega
  subst hi2;simp only[hlt,decide_false,i_f];refine hK _ _ ⟨?_,rfl⟩;rw[←he,Lx.line,List.drop_length];simp[Lx.cY]
theorem Mo (s:List UInt8)(k:Int)(w:World)(hs:s.length≤4611686018427387904):Ret prog 62 #[.string ⟨s.toArray⟩,.int .i64 k] w (fun v w'=>v=.int .i64 (Lx.eM s k)∧w=w'):=by
 refine aO fun K hK=>FW ?_;unfold zK;by_cases h0:k < 0
 ·simp only[rs,h0,decide_true,g_un];exact hK _ _ ⟨by rw[Lx.eM,if_pos (.inl h0)],rfl⟩
 simp only[rs,h0,decide_false,bD Tryz.underlying9];by_cases h1:(s.length:Int) < k
 ·simp only[rs,h1,decide_true];exact hK _ _ ⟨by rw[Lx.eM,if_pos (.inr h1)],rfl⟩
 simp only[rs,h1,decide_false];have hsk:Lx.eM s k=((Lx.skip s k.toNat:Nat):Int):=by rw[Lx.eM,if_neg (by omega)]
 refine loop (fun vs w'=>∃(i:Nat) (b:Bool),vs=[.int .i64 i,.bool b]∧i≤s.length∧i+Lx.cU b (s.drop i)=Lx.skip s k.toNat∧w=w') (fun vs _=>s.length - n0 vs) ⟨k.toNat,false,by rw[Int.toNat_of_nonneg (by omega)],by omega,rfl,rfl⟩ ?_;rintro vs w2 ⟨i,b,rfl,hi,he,rfl⟩ _;simp only[Ax,gd,bD Tryz.underlying9];rw[rF];by_cases hlt:(i:Int) < (s.length:Int)
 ·have hi2:i < s.length:=by omega
  simp only[hlt,decide_true,i_t];refine join fun J2 hJ2=>?_;rw[s_ix (c:=s[i]) Tryz.underlying9 (by omega) (by simp[hi2])];have hd:=Lx.drop_cons hi2;rw[hd] at he;have fin:∀b':Bool,i+1+Lx.cU b' (s.drop (i+1))=Lx.skip s k.toNat→J2 [.bool b'] w:=by
   intro b' hb';refine hJ2 _ _ fun _=>?_;simp only[As,gd];rw[CX,aC (by omega) (by omega)];exact bG ⟨i+1,b',rfl,by omega,hb',rfl⟩ (by simp[n0,RowKit.intOf];omega)
  cases b with
 |true=>
   simp only[i_t];refine c_eq (QB s[i] w) ?_;simp only[rs];exact fin _ (by rw[Lx.cU] at he;omega)
 |false=>
   simp only[i_f];have e1:=u8d s[i] 37 37 rfl;by_cases g1:s[i]=37
   ·simp only[rs,e1,decide_eq_true g1];exact fin _ (by rw[Lx.cU,if_pos g1] at he;omega)
   simp only[rs,e1,decide_eq_false g1];refine c_eq (rH s[i] w) ?_;cases hw:Oc.gE s[i] with
  |true=>
    simp only[rs];exact fin _ (by rw[Lx.cU,if_neg g1,if_pos hw] at he;omega)
  |false=>
    simp only[rs];refine hK _ _ ⟨?_,rfl⟩;rw[Lx.cU,if_neg g1,if_neg (by simp[hw])] at he;rw[hsk,←he];simp
 ·have hi2:i=s.length:=by omega
  subst hi2;simp only[hlt,decide_false,i_f];rw[List.drop_length] at he;refine hK _ _ ⟨?_,rfl⟩;rw[hsk,←he];cases b<;>simp[Lx.cU]
 attribute [local congr] iA in
theorem Gd (c:UInt8)(w:World):Ret prog 139 #[.int .u8 c.toNat] w (fun v w'=>v=.int .i64 (Lx.digit c)∧w=w'):=by
  refine aO fun K hK=>DZ ?_;unfold tG;have h256:=c.toNat_lt;have conv:∀{n:Int} {PK K},0≤n→n≤255→DoX prog (cP 5 3 (.int .u8 n)) w PK K=K (.int .i64 n) w:=by
   intro n PK K h0 h1;rw[H4 (show (Tryz.prog.underlying 5).isSome=true by kernel_rfl) Tryz.underlying3,aC (by omega) (by omega)]
  simp +contextual only[rs,gs];by_cases h1:48≤c.toNat∧c.toNat≤57
  ·have hb:(decide ((48:Int)≤(c.toNat:Int))&&decide ((c.toNat:Int)≤57))=true:=by simp;omega
   simp only[hb,i_t];rw[gH (by omega) (by omega),conv (by omega) (by omega)];exact hK _ _ ⟨by rw[Lx.digit,if_pos h1],rfl⟩
  have hb:(decide ((48:Int)≤(c.toNat:Int))&&decide ((c.toNat:Int)≤57))=false:=by
   rw[Bool.and_eq_false_iff,decide_eq_false_iff_not,decide_eq_false_iff_not];omega
  simp only[hb,i_f];by_cases h2:65≤c.toNat∧c.toNat≤70
  ·have hb:(decide ((65:Int)≤(c.toNat:Int))&&decide ((c.toNat:Int)≤70))=true:=by simp;omega
   simp only[hb,i_t];rw[gH (by omega) (by omega),conv (by omega) (by omega),CX,aC (by omega) (by omega)];exact hK _ _ ⟨by rw[Lx.digit,if_neg h1,if_pos h2],rfl⟩
  have hb:(decide ((65:Int)≤(c.toNat:Int))&&decide ((c.toNat:Int)≤70))=false:=by
   rw[Bool.and_eq_false_iff,decide_eq_false_iff_not,decide_eq_false_iff_not];omega
  simp only[hb,i_f];by_cases h3:97≤c.toNat∧c.toNat≤102
  ·have hb:(decide ((97:Int)≤(c.toNat:Int))&&decide ((c.toNat:Int)≤102))=true:=by simp;omega
   simp only[hb,i_t];rw[gH (by omega) (by omega),conv (by omega) (by omega),CX,aC (by omega) (by omega)];exact hK _ _ ⟨by rw[Lx.digit,if_neg h1,if_neg h2,if_pos h3],rfl⟩
  have hb:(decide ((97:Int)≤(c.toNat:Int))&&decide ((c.toNat:Int)≤102))=false:=by
   rw[Bool.and_eq_false_iff,decide_eq_false_iff_not,decide_eq_false_iff_not];omega
  simp only[hb,i_f];exact hK _ _ ⟨by rw[Lx.digit,if_neg h1,if_neg h2,if_neg h3],rfl⟩
end
section
open Eng
def Ds (t4 t6 t7 t49 t50:Value)(w:World)(K:Ending→World→Prop):Prop:=
 IfX t50 (DoX prog (aB 137 t6) w (pk K) fun t55 w=>
 CallX prog 101 #[t55,(.int .i64 1)] w (pk K) fun t56 w=>
 DoX prog (mExt t56 0) w (pk K) fun t57 w=>
 DoX prog (mExt t56 1) w (pk K) fun t58 w=>
 DoX prog (aD 53 t4 t57) w (pk K) fun _ w=>
 RetX prog [.cell t4 53,.val t58] w K) (DoX prog (mEq .eql 5 (.tmp 49) (.const (.int .u8 60)) t49 (.int .u8 60)) w (pk K) fun t60 w=>
 IfX t60 (IfX t7 (DoX prog (aB 137 t6) w (pk K) fun t62 w=>
 CallX prog 101 #[t62,(.int .i64 2)] w (pk K) fun t63 w=>
 DoX prog (mExt t63 0) w (pk K) fun t64 w=>
 DoX prog (mExt t63 1) w (pk K) fun t65 w=>
 DoX prog (aD 53 t4 t64) w (pk K) fun _ w=>
 RetX prog [.cell t4 53,.val t65] w K) (DoX prog (aB 137 t6) w (pk K) fun t66 w=>
 CallX prog 102 #[t66] w (pk K) fun t67 w=>
 DoX prog (mExt t67 0) w (pk K) fun t68 w=>
 DoX prog (mExt t67 1) w (pk K) fun t69 w=>
 DoX prog (aD 53 t4 t68) w (pk K) fun _ w=>
 RetX prog [.cell t4 53,.val t69] w K)) (DoX prog (mEq .eql 5 (.tmp 49) (.const (.int .u8 62)) t49 (.int .u8 62)) w (pk K) fun t71 w=>
 IfX t71 (IfX t7 (DoX prog (aB 137 t6) w (pk K) fun t73 w=>
 CallX prog 101 #[t73,(.int .i64 2)] w (pk K) fun t74 w=>
 DoX prog (mExt t74 0) w (pk K) fun t75 w=>
 DoX prog (mExt t74 1) w (pk K) fun t76 w=>
 DoX prog (aD 53 t4 t75) w (pk K) fun _ w=>
 RetX prog [.cell t4 53,.val t76] w K) (CallX prog 99 #[(.int .i64 3)] w (pk K) fun t77 w=>
 DoX prog (mExt t77 0) w (pk K) fun t78 w=>
 DoX prog (mExt t77 1) w (pk K) fun t79 w=>
 DoX prog (aD 53 t4 t78) w (pk K) fun _ w=>
 RetX prog [.cell t4 53,.val t79] w K)) (DoX prog (mEq .eql 5 (.tmp 49) (.const (.int .u8 47)) t49 (.int .u8 47)) w (pk K) fun t81 w=>
 IfX t81 (DoX prog (aB 137 t6) w (pk K) fun t82 w=>
 CallX prog 103 #[t82] w (pk K) fun t83 w=>
 DoX prog (mExt t83 0) w (pk K) fun t84 w=>
 DoX prog (mExt t83 1) w (pk K) fun t85 w=>
 DoX prog (aD 53 t4 t84) w (pk K) fun _ w=>
 RetX prog [.cell t4 53,.val t85] w K) (DoX prog (mEq .eql 5 (.tmp 49) (.const (.int .u8 40)) t49 (.int .u8 40)) w (pk K) fun t87 w=>
 IfX t87 (DoX prog (aB 137 t6) w (pk K) fun t88 w=>
 CallX prog 104 #[t88] w (pk K) fun t89 w=>
 DoX prog (mExt t89 0) w (pk K) fun t90 w=>
 DoX prog (mExt t89 1) w (pk K) fun t91 w=>
 DoX prog (aD 53 t4 t90) w (pk K) fun _ w=>
 RetX prog [.cell t4 53,.val t91] w K) (DoX prog (mEq .eql 5 (.tmp 49) (.const (.int .u8 41)) t49 (.int .u8 41)) w (pk K) fun t93 w=>
 IfX t93 (CallX prog 99 #[(.int .i64 3)] w (pk K) fun t94 w=>
 DoX prog (mExt t94 0) w (pk K) fun t95 w=>
 DoX prog (mExt t94 1) w (pk K) fun t96 w=>
 DoX prog (aD 53 t4 t95) w (pk K) fun _ w=>
 RetX prog [.cell t4 53,.val t96] w K) (DoX prog (aB 137 t6) w (pk K) fun t97 w=>
 CallX prog 105 #[t97] w (pk K) fun t98 w=>
 DoX prog (mExt t98 0) w (pk K) fun t99 w=>
 DoX prog (mExt t98 1) w (pk K) fun t100 w=>
 DoX prog (aD 53 t4 t99) w (pk K) fun _ w=>
 RetX prog [.cell t4 53,.val t100] w K))))))
def Db (t0 t1:Value)(w:World)(K:Ending→World→Prop):Prop:=
 DoX prog (aN 53) w (pk K) fun t4 w=>
 DoX prog (mBin .lss 3 t1 (.int .i64 0)) w (pk K) fun t9 w=>
 GDo t9 false (fun E=>E t1 w) w fun t11 w=>
 GDo t9 false (fun E=>E t0 w) w fun t12 w=>
 GDo t9 false (fun E=>DoX prog (mB .len #[9] 3 #[false] #[t12]) w (pk K) E) w fun t13 w=>
 GDo t9 false (fun E=>DoX prog (mBin .gtr 3 t11 t13) w (pk K) E) w fun t14 w=>
 DoX prog (aL t9 (.bool true) t14) w (pk K) fun t15 w=>
 IfX t15 (CallX prog 99 #[(.int .i64 1)] w (pk K) fun t16 w=>
 DoX prog (mExt t16 0) w (pk K) fun t17 w=>
 DoX prog (mExt t16 1) w (pk K) fun t18 w=>
 DoX prog (aD 53 t4 t17) w (pk K) fun _ w=>
 RetX prog [.cell t4 53,.val t18] w K) (CallX prog 62 #[t0,t1] w (pk K) fun t22 w=>
 DoX prog (aG 137 #[(0,t0),(1,t22)]) w (pk K) fun t23 w=>
 DoX prog (aN 137) w (pk K) fun t6 w=>
 DoX prog (aD 137 t6 t23) w (pk K) fun _ w=>
 DoX prog (mFA 137 t6 1) w (pk K) fun t24 w=>
 DoX prog (aB 3 t24) w (pk K) fun t25 w=>
 DoX prog (mB .len #[9] 3 #[false] #[t0]) w (pk K) fun t27 w=>
 DoX prog (mEq .eql 3 (.tmp 25) (.tmp 27) t25 t27) w (pk K) fun t28 w=>
 IfX t28 (DoX prog (mFA 137 t6 1) w (pk K) fun t29 w=>
 DoX prog (aB 3 t29) w (pk K) fun t30 w=>
 DoX prog (mFA 137 t6 1) w (pk K) fun t31 w=>
 DoX prog (aB 3 t31) w (pk K) fun t32 w=>
 DoX prog (aG 53 #[(1,t30),(2,t32)]) w (pk K) fun t33 w=>
 DoX prog (aD 53 t4 t33) w (pk K) fun _ w=>
 RetX prog [.cell t4 53,.val (.int .i64 0)] w K) (QuietX w (fun C1=>
 QDo prog C1 (mFA 137 t6 1) fun t36=>
 QDo prog C1 (aB 3 t36) fun t37=>
 QDo prog C1 (mFA 137 t6 1) fun t38=>
 QDo prog C1 (aB 3 t38) fun t39=>
 QDo prog C1 (mBin .add 3 t39 (.int .i64 1)) fun t40=>
 QDo prog C1 (bT 9 t0 (some t37) (some t40) none) fun t41=>
 QDo prog C1 (mFA 137 t6 1) fun t42=>
 QDo prog C1 (aB 3 t42) fun t43=>
 QDo prog C1 (mBin .add 3 t43 (.int .i64 1)) fun t44=>
 QCall prog C1 100 #[t0,t41,t44] fun t45=>
 ∀w,C1 w →
 DoX prog (mFA 137 t6 1) w (pk K) fun t47 w=>
 DoX prog (aB 3 t47) w (pk K) fun t48 w=>
 DoX prog (mIx 9 t0 t48) w (pk K) fun t49 w=>
 JoinX (fun J2=>
 DoX prog (mEq .eql 5 (.tmp 49) (.const (.int .u8 91)) t49 (.int .u8 91)) w (pk K) fun t51 w=>
 IfX t51 (J2 [t51] w) (DoX prog (mEq .eql 5 (.tmp 49) (.const (.int .u8 93)) t49 (.int .u8 93)) w (pk K) fun t52 w=>
 IfX t52 (J2 [t52] w) (DoX prog (mEq .eql 5 (.tmp 49) (.const (.int .u8 123)) t49 (.int .u8 123)) w (pk K) fun t53 w=>
 IfX t53 (J2 [t53] w) (DoX prog (mEq .eql 5 (.tmp 49) (.const (.int .u8 125)) t49 (.int .u8 125)) w (pk K) fun t54 w=>
 J2 [t54] w)))) (fun vs2 w=>∀_:Sg,Ds t4 t6 t45 t49 (vs2.getD 0 undef) w K))))
theorem IW (t0 t1:Value)(w:World)(K:Ending→World→Prop):wpX prog 101 [(12,[50])] [] none (aK Tryz.f61) (topQ prog [.cell 4 53,.tmp 5] K) (aJ [t0,t1]) [] w=Db t0 t1 w K:=by kernel_rfl
theorem Jd {t0 t1:Value}{w:World}{K:Ending→World→Prop}(h:Db t0 t1 w K):Calls prog 61 #[t0,t1] w K:=
 aA Tryz.func61 rfl rfl rfl rfl (Eq.mpr (IW t0 t1 w K) h)
def lA (t0 t1:Value)(w:World)(K:Ending→World→Prop):Prop:=
 DoX prog (mBox 137 t0) w (pk K) fun t2 w=>
 DoX prog (aN 53) w (pk K) fun t4 w=>
 QuietX w (fun C1=>
 QDo prog C1 (mFA 137 t2 1) fun t6=>
 QDo prog C1 (aB 3 t6) fun t7=>
 QDo prog C1 (mFA 137 t2 1) fun t8=>
 QDo prog C1 (aB 3 t8) fun t9=>
 QDo prog C1 (mBin .add 3 t9 t1) fun t11=>
 QDo prog C1 (mFA 137 t2 0) fun t12=>
 QDo prog C1 (aB 9 t12) fun t13=>
 QDo prog C1 (mFA 137 t2 1) fun t14=>
 QDo prog C1 (aB 3 t14) fun t15=>
 QDo prog C1 (mFA 137 t2 1) fun t16=>
 QDo prog C1 (aB 3 t16) fun t17=>
 QDo prog C1 (mBin .add 3 t17 t1) fun t19=>
 QDo prog C1 (bT 9 t13 (some t15) (some t19) none) fun t20=>
 QDo prog C1 (aG 53 #[(0,(.int .i64 6)),(1,t7),(2,t11),(4,t20)]) fun t21=>
 ∀w,C1 w →
 DoX prog (aD 53 t4 t21) w (pk K) fun _ w=>
 RetX prog [.cell t4 53,.val (.int .i64 0)] w K)
theorem Am (t0 t1:Value)(w:World)(K:Ending→World→Prop):wpX prog 22 [] [] none (aK Tryz.f101) (topQ prog [.cell 4 53,.tmp 5] K) (aJ [t0,t1]) [] w=lA t0 t1 w K:=by kernel_rfl
theorem Ac {t0 t1:Value}{w:World}{K:Ending→World→Prop}(h:lA t0 t1 w K):Calls prog 101 #[t0,t1] w K:=
 aA Tryz.func101 rfl rfl rfl rfl (Eq.mpr (Am t0 t1 w K) h)
def sG (t0:Value)(w:World)(K:Ending→World→Prop):Prop:=
 DoX prog (aN 53) w (pk K) fun t2 w=>
 DoX prog (aG 53 #[]) w (pk K) fun t4 w=>
 DoX prog (aD 53 t2 t4) w (pk K) fun _ w=>
 RetX prog [.cell t2 53,.val t0] w K
theorem DW (t0:Value)(w:World)(K:Ending→World→Prop):wpX prog 6 [] [] none (aK Tryz.f99) (topQ prog [.cell 2 53,.tmp 3] K) (aJ [t0]) [] w=sG t0 w K:=by kernel_rfl
theorem Ee {t0:Value}{w:World}{K:Ending→World→Prop}(h:sG t0 w K):Calls prog 99 #[t0] w K:=
 aA Tryz.func99 rfl rfl rfl rfl (Eq.mpr (DW t0 w K) h)
def pY (t1 t2:Value)(w:World)(N1:List Value→World→Prop)(K:Ending→World→Prop):Prop:=
 DoX prog (mFA 137 t2 0) w (pk K) fun t6 w=>
 DoX prog (aB 9 t6) w (pk K) fun t7 w=>
 DoX prog (mB .len #[9] 3 #[false] #[t7]) w (pk K) fun t8 w=>
 DoX prog (mBin .lss 3 t1 t8) w (pk K) fun t9 w=>
 GDo t9 true (fun E=>DoX prog (mFA 137 t2 0) w (pk K) E) w fun t11 w=>
 GDo t9 true (fun E=>DoX prog (aB 9 t11) w (pk K) E) w fun t12 w=>
 GDo t9 true (fun E=>E t1 w) w fun t13 w=>
 GDo t9 true (fun E=>DoX prog (mIx 9 t12 t13) w (pk K) E) w fun t14 w=>
 GDo t9 true (fun E=>CallX prog 53 #[t14] w (pk K) E) w fun t15 w=>
 DoX prog (aL t9 t15 (.bool false)) w (pk K) fun t16 w=>
 IfX t16 (DoX prog (mBin .add 3 t1 (.int .i64 1)) w (pk K) fun t18 w=>
 N1 [t18] w) (K (.returned t1) w)
def mV (t0 t1:Value)(w:World)(K:Ending→World→Prop):Prop:=
 DoX prog (mBox 137 t0) w (pk K) fun t2 w=>
 LoopX [t1] w (fun vs1 w N1=>∀_:Sg,pY (vs1.getD 0 undef) t2 w N1 K)
theorem A3 (t0 t1:Value)(w:World)(K:Ending→World→Prop):wpX prog 20 [] [(1,[1])] none (aK Tryz.f140) (topQ prog [.tmp 4] K) (aJ [t0,t1]) [] w=mV t0 t1 w K:=by kernel_rfl
theorem AU {t0 t1:Value}{w:World}{K:Ending→World→Prop}(h:mV t0 t1 w K):Calls prog 140 #[t0,t1] w K:=
 aA Tryz.func140 rfl rfl rfl rfl (Eq.mpr (A3 t0 t1 w K) h)
def kV (t0 t1 t2 t3 t4:Value)(w:World)(K:Ending→World→Prop):Prop:=
 DoX prog (mBox 137 t0) w (pk K) fun t5 w=>
 DoX prog (aN 53) w (pk K) fun t10 w=>
 DoX prog (mB .len #[9] 3 #[false] #[t3]) w (pk K) fun t13 w=>
 DoX prog (mBin .gtr 3 t13 t4) w (pk K) fun t15 w=>
 IfX t15 (CallX prog 99 #[(.int .i64 5)] w (pk K) fun t16 w=>
 DoX prog (mExt t16 0) w (pk K) fun t17 w=>
 DoX prog (mExt t16 1) w (pk K) fun t18 w=>
 DoX prog (aD 53 t10 t17) w (pk K) fun _ w=>
 RetX prog [.cell t10 53,.val t18] w K) (DoX prog (mFA 137 t5 1) w (pk K) fun t20 w=>
 DoX prog (aB 3 t20) w (pk K) fun t21 w=>
 DoX prog (aG 53 #[(0,t1),(1,t21),(2,t2),(4,t3)]) w (pk K) fun t24 w=>
 DoX prog (aD 53 t10 t24) w (pk K) fun _ w=>
 RetX prog [.cell t10 53,.val (.int .i64 0)] w K)
theorem Ah (t0 t1 t2 t3 t4:Value)(w:World)(K:Ending→World→Prop):wpX prog 25 [] [] none (aK Tryz.f138) (topQ prog [.cell 10 53,.tmp 11] K) (aJ [t0,t1,t2,t3,t4]) [] w=kV t0 t1 t2 t3 t4 w K:=by kernel_rfl
theorem Al {t0 t1 t2 t3 t4:Value}{w:World}{K:Ending→World→Prop}(h:kV t0 t1 t2 t3 t4 w K):Calls prog 138 #[t0,t1,t2,t3,t4] w K:=
 aA Tryz.func138 rfl rfl rfl rfl (Eq.mpr (Ah t0 t1 t2 t3 t4 w K) h)
def oM (t3 t5 t6 t7:Value)(w:World)(N1:List Value→World→Prop)(K:Ending→World→Prop):Prop:=
 DoX prog (aP 66 1 #[(0,t7)]) w (pk K) fun t62 w=>
 DoX prog (mB .append #[66,66] 66 #[false,false] #[t5,t62]) w (pk K) fun t63 w=>
 DoX prog (mBin .add 3 t6 (.int .i64 1)) w (pk K) fun t22 w=>
 N1 [t3,t63,t22] w
def oD (t1 t2 t3 t4 t5 t6:Value)(w:World)(N1:List Value→World→Prop)(K:Ending→World→Prop):Prop:=
 DoX prog (mBin .lss 3 t6 t4) w (pk K) fun t20 w=>
 IfX t20 (DoX prog (mFA 137 t1 0) w (pk K) fun t23 w=>
 DoX prog (aB 9 t23) w (pk K) fun t24 w=>
 DoX prog (mIx 9 t24 t6) w (pk K) fun t26 w=>
 JoinX (fun J2=>
 DoX prog (mEq .eql 5 (.tmp 27) (.const (.int .u8 35)) t26 (.int .u8 35)) w (pk K) fun t28 w=>
 IfX t28 (DoX prog (mBin .add 3 t6 (.int .i64 2)) w (pk K) fun t30 w=>
 DoX prog (mBin .geq 3 t30 t4) w (pk K) fun t32 w=>
 IfX t32 (CallX prog 99 #[(.int .i64 3)] w (pk K) fun t33 w=>
 DoX prog (mExt t33 0) w (pk K) fun t34 w=>
 DoX prog (mExt t33 1) w (pk K) fun t35 w=>
 DoX prog (aD 53 t2 t34) w (pk K) fun _ w=>
 RetX prog [.cell t2 53,.val t35] w K) (DoX prog (mFA 137 t1 0) w (pk K) fun t37 w=>
 DoX prog (aB 9 t37) w (pk K) fun t38 w=>
 DoX prog (mBin .add 3 t6 (.int .i64 1)) w (pk K) fun t40 w=>
 DoX prog (mBin .add 3 t6 (.int .i64 3)) w (pk K) fun t42 w=>
 DoX prog (bT 9 t38 (some t40) (some t42) none) w (pk K) fun t43 w=>
 CallX prog 141 #[t43] w (pk K) fun t44 w=>
 DoX prog (mExt t44 0) w (pk K) fun t45 w=>
 DoX prog (mExt t44 1) w (pk K) fun t46 w=>
 DoX prog (mEq .neq 24 (.tmp 47) (.const (.int .i64 0)) t46 (.int .i64 0)) w (pk K) fun t48 w=>
 GDo t48 false (fun E=>E t45 w) w fun t50 w=>
 GDo t48 false (fun E=>DoX prog (mEq .eql 9 (.tmp 50) (.const (.string ⟨#[0]⟩)) t50 (.string ⟨#[0]⟩)) w (pk K) E) w fun t51 w=>
 DoX prog (aL t48 (.bool true) t51) w (pk K) fun t52 w=>
 IfX t52 (CallX prog 99 #[(.int .i64 3)] w (pk K) fun t53 w=>
 DoX prog (mExt t53 0) w (pk K) fun t54 w=>
 DoX prog (mExt t53 1) w (pk K) fun t55 w=>
 DoX prog (aD 53 t2 t54) w (pk K) fun _ w=>
 RetX prog [.cell t2 53,.val t55] w K) (DoX prog (mIx 9 t45 (.int .i64 0)) w (pk K) fun t57 w=>
 DoX prog (mBin .add 3 t6 (.int .i64 2)) w (pk K) fun t59 w=>
 J2 [t3,t59,t57] w))) (J2 [t3,t6,t26] w)) (fun vs2 w=>∀_:Sg,oM (vs2.getD 0 undef) t5 (vs2.getD 1 undef) (vs2.getD 2 undef) w N1 K)) (DoX prog (aB 137 t1) w (pk K) fun t64 w=>
 DoX prog (cP 66 9 t5) w (pk K) fun t67 w=>
 CallX prog 138 #[t64,(.int .i64 4),t4,t67,(.int .i64 127)] w (pk K) fun t68 w=>
 DoX prog (mExt t68 0) w (pk K) fun t69 w=>
 DoX prog (mExt t68 1) w (pk K) fun t70 w=>
 DoX prog (aD 53 t2 t69) w (pk K) fun _ w=>
 RetX prog [.cell t2 53,.val t70] w K)
def kW (t0:Value)(w:World)(K:Ending→World→Prop):Prop:=
 DoX prog (mBox 137 t0) w (pk K) fun t1 w=>
 DoX prog (aN 53) w (pk K) fun t2 w=>
 DoX prog (aB 137 t1) w (pk K) fun t10 w=>
 DoX prog (mFA 137 t1 1) w (pk K) fun t11 w=>
 DoX prog (aB 3 t11) w (pk K) fun t12 w=>
 DoX prog (mBin .add 3 t12 (.int .i64 1)) w (pk K) fun t13 w=>
 CallX prog 140 #[t10,t13] w (pk K) fun t14 w=>
 DoX prog (mFA 137 t1 1) w (pk K) fun t15 w=>
 DoX prog (aB 3 t15) w (pk K) fun t16 w=>
 DoX prog (mBin .add 3 t16 (.int .i64 1)) w (pk K) fun t17 w=>
 LoopX [(.int .i64 0),(.slice none 0 0),t17] w (fun vs1 w N1=>∀_:Sg,oD t1 t2 (vs1.getD 0 undef) t14 (vs1.getD 1 undef) (vs1.getD 2 undef) w N1 K)
theorem zZ (t0:Value)(w:World)(K:Ending→World→Prop):wpX prog 71 [(15,[3,6,7])] [(4,[3,5,6])] none (aK Tryz.f103) (topQ prog [.cell 2 53,.tmp 3] K) (aJ [t0]) [] w=kW t0 w K:=by kernel_rfl
theorem Aq {t0:Value}{w:World}{K:Ending→World→Prop}(h:kW t0 w K):Calls prog 103 #[t0] w K:=
 aA Tryz.func103 rfl rfl rfl rfl (Eq.mpr (zZ t0 w K) h)
def mX (t0 t1:Value)(w:World)(K:Ending→World→Prop):Prop:=
 DoX prog (mBox 137 t0) w (pk K) fun t2 w=>
 DoX prog (mFA 137 t2 0) w (pk K) fun t6 w=>
 DoX prog (aB 9 t6) w (pk K) fun t7 w=>
 DoX prog (mIx 9 t7 t1) w (pk K) fun t9 w=>
 DoX prog (mEq .eql 5 (.tmp 9) (.const (.int .u8 13)) t9 (.int .u8 13)) w (pk K) fun t10 w=>
 GDo t10 false (fun E=>DoX prog (mFA 137 t2 0) w (pk K) E) w fun t12 w=>
 GDo t10 false (fun E=>DoX prog (aB 9 t12) w (pk K) E) w fun t13 w=>
 GDo t10 false (fun E=>E t1 w) w fun t14 w=>
 GDo t10 false (fun E=>DoX prog (mIx 9 t13 t14) w (pk K) E) w fun t15 w=>
 GDo t10 false (fun E=>DoX prog (mEq .eql 5 (.tmp 15) (.const (.int .u8 10)) t15 (.int .u8 10)) w (pk K) E) w fun t16 w=>
 DoX prog (aL t10 (.bool true) t16) w (pk K) fun t17 w=>
 IfX t17 (DoX prog (mFA 137 t2 0) w (pk K) fun t18 w=>
 DoX prog (aB 9 t18) w (pk K) fun t19 w=>
 CallX prog 162 #[t19,t1] w (pk K) fun t21 w=>
 K (.returned (.tuple #[t21,(.bool true)])) w) (K (.returned (.tuple #[t1,(.bool false)])) w)
theorem A5 (t0 t1:Value)(w:World)(K:Ending→World→Prop):wpX prog 23 [] [] none (aK Tryz.f142) (topQ prog [.tmp 4,.tmp 5] K) (aJ [t0,t1]) [] w=mX t0 t1 w K:=by kernel_rfl
theorem A6 {t0 t1:Value}{w:World}{K:Ending→World→Prop}(h:mX t0 t1 w K):Calls prog 142 #[t0,t1] w K:=
 aA Tryz.func142 rfl rfl rfl rfl (Eq.mpr (A5 t0 t1 w K) h)
def kS (t1 t2 t9 t10:Value)(w:World)(N1:List Value→World→Prop)(K:Ending→World→Prop):Prop:=
 DoX prog (mFA 137 t2 0) w (pk K) fun t34 w=>
 DoX prog (aB 9 t34) w (pk K) fun t35 w=>
 DoX prog (mB .len #[9] 3 #[false] #[t35]) w (pk K) fun t36 w=>
 DoX prog (mBin .lss 3 t10 t36) w (pk K) fun t37 w=>
 GDo t37 true (fun E=>E t10 w) w fun t39 w=>
 GDo t37 true (fun E=>E t1 w) w fun t40 w=>
 GDo t37 true (fun E=>DoX prog (mBin .add 3 t40 (.int .i64 3)) w (pk K) E) w fun t41 w=>
 GDo t37 true (fun E=>DoX prog (mBin .lss 3 t39 t41) w (pk K) E) w fun t42 w=>
 DoX prog (aL t37 t42 (.bool false)) w (pk K) fun t43 w=>
 GDo t43 true (fun E=>DoX prog (mFA 137 t2 0) w (pk K) E) w fun t45 w=>
 GDo t43 true (fun E=>DoX prog (aB 9 t45) w (pk K) E) w fun t46 w=>
 GDo t43 true (fun E=>E t10 w) w fun t47 w=>
 GDo t43 true (fun E=>DoX prog (mIx 9 t46 t47) w (pk K) E) w fun t48 w=>
 GDo t43 true (fun E=>DoX prog (mBin .geq 5 t48 (.int .u8 48)) w (pk K) E) w fun t49 w=>
 DoX prog (aL t43 t49 (.bool false)) w (pk K) fun t50 w=>
 GDo t50 true (fun E=>DoX prog (mFA 137 t2 0) w (pk K) E) w fun t52 w=>
 GDo t50 true (fun E=>DoX prog (aB 9 t52) w (pk K) E) w fun t53 w=>
 GDo t50 true (fun E=>E t10 w) w fun t54 w=>
 GDo t50 true (fun E=>DoX prog (mIx 9 t53 t54) w (pk K) E) w fun t55 w=>
 GDo t50 true (fun E=>DoX prog (mBin .leq 5 t55 (.int .u8 55)) w (pk K) E) w fun t56 w=>
 DoX prog (aL t50 t56 (.bool false)) w (pk K) fun t57 w=>
 IfX t57 (DoX prog (mBin .mul 3 (.int .i64 8) t9) w (pk K) fun t59 w=>
 DoX prog (mFA 137 t2 0) w (pk K) fun t60 w=>
 DoX prog (aB 9 t60) w (pk K) fun t61 w=>
 DoX prog (mIx 9 t61 t10) w (pk K) fun t63 w=>
 DoX prog (mBin .sub 5 t63 (.int .u8 48)) w (pk K) fun t64 w=>
 DoX prog (cP 5 3 t64) w (pk K) fun t65 w=>
 DoX prog (mBin .add 3 t59 t65) w (pk K) fun t66 w=>
 DoX prog (mBin .add 3 t10 (.int .i64 1)) w (pk K) fun t68 w=>
 N1 [t66,t68] w) (DoX prog (mBin .gtr 3 t10 t1) w (pk K) fun t71 w=>
 IfX t71 (DoX prog (cP 3 5 t9) w (pk K) fun t73 w=>
 DoX prog (aP 66 1 #[(0,t73)]) w (pk K) fun t74 w=>
 DoX prog (cP 66 9 t74) w (pk K) fun t75 w=>
 K (.returned (.tuple #[t75,t10])) w) (DoX prog (mFA 137 t2 0) w (pk K) fun t77 w=>
 DoX prog (aB 9 t77) w (pk K) fun t78 w=>
 DoX prog (mBin .add 3 t1 (.int .i64 1)) w (pk K) fun t81 w=>
 DoX prog (bT 9 t78 (some t1) (some t81) none) w (pk K) fun t82 w=>
 DoX prog (mBin .add 3 t1 (.int .i64 1)) w (pk K) fun t84 w=>
 K (.returned (.tuple #[t82,t84])) w))
def fM (t0 t1:Value)(w:World)(K:Ending→World→Prop):Prop:=
 DoX prog (mBox 137 t0) w (pk K) fun t2 w=>
 DoX prog (mFA 137 t2 0) w (pk K) fun t11 w=>
 DoX prog (aB 9 t11) w (pk K) fun t12 w=>
 DoX prog (mIx 9 t12 t1) w (pk K) fun t14 w=>
 CallX prog 92 #[(.string ⟨#[110,114,116,98,102]⟩),t14] w (pk K) fun t15 w=>
 DoX prog (mBin .geq 3 t15 (.int .i64 0)) w (pk K) fun t17 w=>
 IfX t17 (DoX prog (mBin .add 3 t15 (.int .i64 1)) w (pk K) fun t20 w=>
 DoX prog (bT 9 (.string ⟨#[10,13,9,8,12]⟩) (some t15) (some t20) none) w (pk K) fun t21 w=>
 DoX prog (mBin .add 3 t1 (.int .i64 1)) w (pk K) fun t23 w=>
 K (.returned (.tuple #[t21,t23])) w) (DoX prog (aB 137 t2) w (pk K) fun t25 w=>
 CallX prog 142 #[t25,t1] w (pk K) fun t27 w=>
 DoX prog (mExt t27 0) w (pk K) fun t28 w=>
 DoX prog (mExt t27 1) w (pk K) fun t29 w=>
 IfX t29 (K (.returned (.tuple #[(.string ⟨#[]⟩),t28])) w) (LoopX [(.int .i64 0),t1] w (fun vs1 w N1=>∀_:Sg,kS t1 t2 (vs1.getD 0 undef) (vs1.getD 1 undef) w N1 K)))
theorem sH (t0 t1:Value)(w:World)(K:Ending→World→Prop):wpX prog 85 [] [(8,[9,10])] none (aK Tryz.f143) (topQ prog [.tmp 4,.tmp 5] K) (aJ [t0,t1]) [] w=fM t0 t1 w K:=by kernel_rfl
theorem uO {t0 t1:Value}{w:World}{K:Ending→World→Prop}(h:fM t0 t1 w K):Calls prog 143 #[t0,t1] w K:=
 aA Tryz.func143 rfl rfl rfl rfl (Eq.mpr (sH t0 t1 w K) h)
def iE (t1 t2 t3 t4 t5 t6:Value)(w:World)(N1:List Value→World→Prop)(K:Ending→World→Prop):Prop:=
 DoX prog (mEq .eql 3 (.tmp 63) (.const (.int .i64 0)) t5 (.int .i64 0)) w (pk K) fun t64 w=>
 IfX t64 (QuietX w (fun C3=>
 QDo prog C3 (aB 137 t1) fun t65=>
 QDo prog C3 (mBin .add 3 t6 (.int .i64 1)) fun t67=>
 QCall prog C3 30 #[t4] fun t68=>
 QCall prog C3 138 #[t65,(.int .i64 3),t67,t68,(.int .i64 32767)] fun t69=>
 QDo prog C3 (mExt t69 0) fun t70=>
 QDo prog C3 (mExt t69 1) fun t71=>
 ∀w,C3 w →
 DoX prog (aD 53 t2 t70) w (pk K) fun _ w=>
 RetX prog [.cell t2 53,.val t71] w K)) (DoX prog (mFA 137 t1 0) w (pk K) fun t72 w=>
 DoX prog (aB 9 t72) w (pk K) fun t73 w=>
 DoX prog (mIx 9 t73 t6) w (pk K) fun t75 w=>
 CallX prog 54 #[t4,t75] w (pk K) fun t76 w=>
 DoX prog (mBin .add 3 t6 (.int .i64 1)) w (pk K) fun t78 w=>
 N1 [t3,t5,t78] w)
def oW (t1 t2 t3 t4 t5 t6:Value)(w:World)(N1:List Value→World→Prop)(K:Ending→World→Prop):Prop:=
 DoX prog (mFA 137 t1 0) w (pk K) fun t16 w=>
 DoX prog (aB 9 t16) w (pk K) fun t17 w=>
 DoX prog (mB .len #[9] 3 #[false] #[t17]) w (pk K) fun t18 w=>
 DoX prog (mBin .lss 3 t6 t18) w (pk K) fun t19 w=>
 IfX t19 (DoX prog (aB 137 t1) w (pk K) fun t21 w=>
 CallX prog 142 #[t21,t6] w (pk K) fun t23 w=>
 DoX prog (mExt t23 0) w (pk K) fun t24 w=>
 DoX prog (mExt t23 1) w (pk K) fun t25 w=>
 IfX t25 (CallX prog 54 #[t4,(.int .u8 10)] w (pk K) fun t27 w=>
 N1 [t3,t5,t24] w) (JoinX (fun J2=>
 DoX prog (mFA 137 t1 0) w (pk K) fun t29 w=>
 DoX prog (aB 9 t29) w (pk K) fun t30 w=>
 DoX prog (mIx 9 t30 t6) w (pk K) fun t32 w=>
 DoX prog (mEq .eql 5 (.tmp 33) (.const (.int .u8 92)) t32 (.int .u8 92)) w (pk K) fun t35 w=>
 IfX t35 (DoX prog (mBin .add 3 t6 (.int .i64 1)) w (pk K) fun t37 w=>
 DoX prog (mFA 137 t1 0) w (pk K) fun t38 w=>
 DoX prog (aB 9 t38) w (pk K) fun t39 w=>
 DoX prog (mB .len #[9] 3 #[false] #[t39]) w (pk K) fun t40 w=>
 DoX prog (mEq .eql 3 (.tmp 37) (.tmp 40) t37 t40) w (pk K) fun t41 w=>
 IfX t41 (CallX prog 99 #[(.int .i64 4)] w (pk K) fun t42 w=>
 DoX prog (mExt t42 0) w (pk K) fun t43 w=>
 DoX prog (mExt t42 1) w (pk K) fun t44 w=>
 DoX prog (aD 53 t2 t43) w (pk K) fun _ w=>
 RetX prog [.cell t2 53,.val t44] w K) (DoX prog (aB 137 t1) w (pk K) fun t46 w=>
 DoX prog (mBin .add 3 t6 (.int .i64 1)) w (pk K) fun t48 w=>
 CallX prog 143 #[t46,t48] w (pk K) fun t49 w=>
 DoX prog (mExt t49 0) w (pk K) fun t50 w=>
 DoX prog (mExt t49 1) w (pk K) fun t51 w=>
 CallX prog 27 #[t4,t50] w (pk K) fun t53 w=>
 N1 [t3,t5,t51] w)) (DoX prog (mEq .eql 5 (.tmp 33) (.const (.int .u8 40)) t32 (.int .u8 40)) w (pk K) fun t56 w=>
 IfX t56 (DoX prog (mBin .add 3 t5 (.int .i64 1)) w (pk K) fun t58 w=>
 J2 [t3,t58,t6] w) (DoX prog (mEq .eql 5 (.tmp 33) (.const (.int .u8 41)) t32 (.int .u8 41)) w (pk K) fun t60 w=>
 IfX t60 (DoX prog (mBin .sub 3 t5 (.int .i64 1)) w (pk K) fun t62 w=>
 J2 [t3,t62,t6] w) (J2 [t3,t5,t6] w)))) (fun vs2 w=>∀_:Sg,iE t1 t2 (vs2.getD 0 undef) t4 (vs2.getD 1 undef) (vs2.getD 2 undef) w N1 K))) (CallX prog 99 #[(.int .i64 4)] w (pk K) fun t79 w=>
 DoX prog (mExt t79 0) w (pk K) fun t80 w=>
 DoX prog (mExt t79 1) w (pk K) fun t81 w=>
 DoX prog (aD 53 t2 t80) w (pk K) fun _ w=>
 RetX prog [.cell t2 53,.val t81] w K)
def lB (t0:Value)(w:World)(K:Ending→World→Prop):Prop:=
 DoX prog (mBox 137 t0) w (pk K) fun t1 w=>
 DoX prog (aN 53) w (pk K) fun t2 w=>
 DoX prog (aN 68) w (pk K) fun t4 w=>
 DoX prog (mFA 137 t1 1) w (pk K) fun t12 w=>
 DoX prog (aB 3 t12) w (pk K) fun t13 w=>
 DoX prog (mBin .add 3 t13 (.int .i64 1)) w (pk K) fun t14 w=>
 LoopX [(.int .i64 0),(.int .i64 1),t14] w (fun vs1 w N1=>∀_:Sg,oW t1 t2 (vs1.getD 0 undef) t4 (vs1.getD 1 undef) (vs1.getD 2 undef) w N1 K)
theorem Ak (t0:Value)(w:World)(K:Ending→World→Prop):wpX prog 82 [(21,[3,5,6])] [(4,[3,5,6])] none (aK Tryz.f104) (topQ prog [.cell 2 53,.tmp 3] K) (aJ [t0]) [] w=lB t0 w K:=by kernel_rfl
theorem Ab {t0:Value}{w:World}{K:Ending→World→Prop}(h:lB t0 w K):Calls prog 104 #[t0] w K:=
 aA Tryz.func104 rfl rfl rfl rfl (Eq.mpr (Ak t0 w K) h)
def pT (t3 t4 t5 t6:Value)(w:World)(N1:List Value→World→Prop)(K:Ending→World→Prop):Prop:=
 DoX prog (mBin .add 3 t6 (.int .i64 1)) w (pk K) fun t18 w=>
 N1 [t3,t4,t5,t18] w
def pX (t1 t2 t4 t6:Value)(w:World)(K:Ending→World→Prop):Prop:=
 DoX prog (aB 137 t1) w (pk K) fun t33 w=>
 DoX prog (mBin .add 3 t6 (.int .i64 1)) w (pk K) fun t35 w=>
 DoX prog (cP 66 9 t4) w (pk K) fun t37 w=>
 CallX prog 138 #[t33,(.int .i64 3),t35,t37,(.int .i64 32767)] w (pk K) fun t38 w=>
 DoX prog (mExt t38 0) w (pk K) fun t39 w=>
 DoX prog (mExt t38 1) w (pk K) fun t40 w=>
 DoX prog (aD 53 t2 t39) w (pk K) fun _ w=>
 RetX prog [.cell t2 53,.val t40] w K
def pW (t1 t2 t3 t4 t5 t6:Value)(w:World)(N1:List Value→World→Prop)(K:Ending→World→Prop):Prop:=
 DoX prog (mFA 137 t1 0) w (pk K) fun t13 w=>
 DoX prog (aB 9 t13) w (pk K) fun t14 w=>
 DoX prog (mB .len #[9] 3 #[false] #[t14]) w (pk K) fun t15 w=>
 DoX prog (mBin .lss 3 t6 t15) w (pk K) fun t16 w=>
 IfX t16 (JoinX (fun J2=>
 DoX prog (mFA 137 t1 0) w (pk K) fun t19 w=>
 DoX prog (aB 9 t19) w (pk K) fun t20 w=>
 DoX prog (mIx 9 t20 t6) w (pk K) fun t22 w=>
 DoX prog (mEq .eql 5 (.tmp 23) (.const (.int .u8 62)) t22 (.int .u8 62)) w (pk K) fun t24 w=>
 IfX t24 (JoinX (fun J3=>
 DoX prog (mBin .geq 3 t5 (.int .i64 0)) w (pk K) fun t26 w=>
 IfX t26 (DoX prog (mBin .shl 3 t5 (.int .u64 4)) w (pk K) fun t29 w=>
 DoX prog (cP 3 5 t29) w (pk K) fun t30 w=>
 DoX prog (aP 66 1 #[(0,t30)]) w (pk K) fun t31 w=>
 DoX prog (mB .append #[66,66] 66 #[false,false] #[t4,t31]) w (pk K) fun t32 w=>
 J3 [t32] w) (J3 [t4] w)) (fun vs3 w=>∀_:Sg,pX t1 t2 (vs3.getD 0 undef) t6 w K)) (CallX prog 139 #[t22] w (pk K) fun t42 w=>
 CallX prog 90 #[t22] w (pk K) fun t53 w=>
 IfX t53 (J2 [t3,t4,t5] w) (DoX prog (mBin .lss 3 t42 (.int .i64 0)) w (pk K) fun t56 w=>
 IfX t56 (CallX prog 99 #[(.int .i64 3)] w (pk K) fun t57 w=>
 DoX prog (mExt t57 0) w (pk K) fun t58 w=>
 DoX prog (mExt t57 1) w (pk K) fun t59 w=>
 DoX prog (aD 53 t2 t58) w (pk K) fun _ w=>
 RetX prog [.cell t2 53,.val t59] w K) (DoX prog (mBin .lss 3 t5 (.int .i64 0)) w (pk K) fun t62 w=>
 IfX t62 (J2 [t3,t4,t42] w) (DoX prog (mBin .shl 3 t5 (.int .u64 4)) w (pk K) fun t45 w=>
 DoX prog (mBin .or 3 t45 t42) w (pk K) fun t47 w=>
 DoX prog (cP 3 5 t47) w (pk K) fun t48 w=>
 DoX prog (aP 66 1 #[(0,t48)]) w (pk K) fun t49 w=>
 DoX prog (mB .append #[66,66] 66 #[false,false] #[t4,t49]) w (pk K) fun t50 w=>
 J2 [t3,t50,(.int .i64 (-1))] w))))) (fun vs2 w=>∀_:Sg,pT (vs2.getD 0 undef) (vs2.getD 1 undef) (vs2.getD 2 undef) t6 w N1 K)) (CallX prog 99 #[(.int .i64 4)] w (pk K) fun t64 w=>
 DoX prog (mExt t64 0) w (pk K) fun t65 w=>
 DoX prog (mExt t64 1) w (pk K) fun t66 w=>
 DoX prog (aD 53 t2 t65) w (pk K) fun _ w=>
 RetX prog [.cell t2 53,.val t66] w K)
def nC (t0:Value)(w:World)(K:Ending→World→Prop):Prop:=
 DoX prog (mBox 137 t0) w (pk K) fun t1 w=>
 DoX prog (aN 53) w (pk K) fun t2 w=>
 DoX prog (mFA 137 t1 1) w (pk K) fun t9 w=>
 DoX prog (aB 3 t9) w (pk K) fun t10 w=>
 DoX prog (mBin .add 3 t10 (.int .i64 1)) w (pk K) fun t11 w=>
 LoopX [(.int .i64 0),(.slice none 0 0),(.int .i64 (-1)),t11] w (fun vs1 w N1=>∀_:Sg,pW t1 t2 (vs1.getD 0 undef) (vs1.getD 1 undef) (vs1.getD 2 undef) (vs1.getD 3 undef) w N1 K)
theorem AY (t0:Value)(w:World)(K:Ending→World→Prop):wpX prog 67 [(5,[3,4,5]),(10,[4])] [(4,[3,4,5,6])] none (aK Tryz.f102) (topQ prog [.cell 2 53,.tmp 3] K) (aJ [t0]) [] w=nC t0 w K:=by kernel_rfl
theorem A8 {t0:Value}{w:World}{K:Ending→World→Prop}(h:nC t0 w K):Calls prog 102 #[t0] w K:=
 aA Tryz.func102 rfl rfl rfl rfl (Eq.mpr (AY t0 w K) h)
def AR (t0:Value)(w:World)(K:Ending→World→Prop):Prop:=
 CallX prog 163 #[t0,(.string ⟨#[43,45]⟩)] w (pk K) fun t5 w=>
 DoX prog (mB .len #[9] 3 #[false] #[t0]) w (pk K) fun t7 w=>
 DoX prog (mB .len #[9] 3 #[false] #[t5]) w (pk K) fun t9 w=>
 DoX prog (mBin .sub 3 t7 t9) w (pk K) fun t10 w=>
 DoX prog (mBin .leq 3 t10 (.int .i64 1)) w (pk K) fun t11 w=>
 GDo t11 true (fun E=>E t5 w) w fun t13 w=>
 GDo t11 true (fun E=>DoX prog (mEq .neq 9 (.tmp 13) (.const (.string ⟨#[]⟩)) t13 (.string ⟨#[]⟩)) w (pk K) E) w fun t14 w=>
 DoX prog (aL t11 t14 (.bool false)) w (pk K) fun t15 w=>
 GDo t15 true (fun E=>E t5 w) w fun t17 w=>
 GDo t15 true (fun E=>CallX prog 164 #[t17,(.string ⟨#[48,49,50,51,52,53,54,55,56,57]⟩)] w (pk K) E) w fun t18 w=>
 GDo t15 true (fun E=>DoX prog (mEq .eql 9 (.tmp 18) (.const (.string ⟨#[]⟩)) t18 (.string ⟨#[]⟩)) w (pk K) E) w fun t19 w=>
 DoX prog (aL t15 t19 (.bool false)) w (pk K) fun t20 w=>
 IfX t20 (K (.returned (.int .i64 1)) w) (CallX prog 165 #[t0,(.string ⟨#[46]⟩)] w (pk K) fun t22 w=>
 IfX t22 (K (.returned (.int .i64 2)) w) (K (.returned (.int .i64 0)) w))
theorem Gy (t0:Value)(w:World)(K:Ending→World→Prop):wpX prog 23 [] [] none (aK Tryz.f144) (topQ prog [.tmp 2] K) (aJ [t0]) [] w=AR t0 w K:=by kernel_rfl
theorem GG {t0:Value}{w:World}{K:Ending→World→Prop}(h:AR t0 w K):Calls prog 144 #[t0] w K:=
 aA Tryz.func144 rfl rfl rfl rfl (Eq.mpr (Gy t0 w K) h)
def uQ (t4:Value)(w:World)(K:Ending→World→Prop):Prop:=
 K (.returned (.tuple #[t4,(.int .i64 0)])) w
def BF (t0 t4 t9:Value)(w:World)(N1:List Value→World→Prop)(K:Ending→World→Prop):Prop:=
 DoX prog (GS t9 true 0) w (pk K) fun t10 w=>
 DoX prog (mExt t10 0) w (pk K) fun t11 w=>
 IfX t11 (DoX prog (mExt t10 2) w (pk K) fun t12 w=>
 DoX prog (mBin .mul 2 (.int .i64 10) t4) w (pk K) fun t14 w=>
 DoX prog (mBin .sub 21 t12 (.int .i32 48)) w (pk K) fun t16 w=>
 DoX prog (cP 21 2 t16) w (pk K) fun t17 w=>
 DoX prog (mBin .add 2 t14 t17) w (pk K) fun t18 w=>
 DoX prog (mB .min #[2,2] 2 #[false,true] #[t18,(.int .i64 2147483648)]) w (pk K) fun t19 w=>
 N1 [t19] w) (DoX prog (mBin .gtr 2 t4 (.int .i64 2147483647)) w (pk K) fun t21 w=>
 IfX t21 (K (.returned (.tuple #[(.int .i64 0),(.int .i64 2)])) w) (JoinX (fun J2=>
 DoX prog (mIx 9 t0 (.int .i64 0)) w (pk K) fun t23 w=>
 DoX prog (mEq .eql 5 (.tmp 23) (.const (.int .u8 45)) t23 (.int .u8 45)) w (pk K) fun t24 w=>
 IfX t24 (DoX prog (mUn .neg t4) w (pk K) fun t26 w=>
 J2 [t26] w) (J2 [t4] w)) (fun vs2 w=>∀_:Sg,uQ (vs2.getD 0 undef) w K)))
def A9 (t0:Value)(w:World)(K:Ending→World→Prop):Prop:=
 CallX prog 163 #[t0,(.string ⟨#[43,45]⟩)] w (pk K) fun t8 w=>
 DoX prog (uR 9 t8) w (pk K) fun t9 w=>
 LoopX [(.int .i64 0)] w (fun vs1 w N1=>∀_:Sg,BF t0 (vs1.getD 0 undef) t9 w N1 K)
theorem GX (t0:Value)(w:World)(K:Ending→World→Prop):wpX prog 28 [(10,[4])] [(3,[4])] none (aK Tryz.f145) (topQ prog [.tmp 2,.tmp 3] K) (aJ [t0]) [] w=A9 t0 w K:=by kernel_rfl
theorem Gz {t0:Value}{w:World}{K:Ending→World→Prop}(h:A9 t0 w K):Calls prog 145 #[t0] w K:=
 aA Tryz.func145 rfl rfl rfl rfl (Eq.mpr (GX t0 w K) h)
def oZ (t1 t2 t4 t5:Value)(w:World)(K:Ending→World→Prop):Prop:=
 DoX prog (aB 137 t1) w (pk K) fun t61 w=>
 CallX prog 138 #[t61,(.int .i64 5),t4,t5,(.int .i64 127)] w (pk K) fun t64 w=>
 DoX prog (mExt t64 0) w (pk K) fun t65 w=>
 DoX prog (mExt t64 1) w (pk K) fun t66 w=>
 DoX prog (aD 53 t2 t65) w (pk K) fun _ w=>
 RetX prog [.cell t2 53,.val t66] w K
def lD (t0:Value)(w:World)(K:Ending→World→Prop):Prop:=
 DoX prog (mBox 137 t0) w (pk K) fun t1 w=>
 DoX prog (aN 53) w (pk K) fun t2 w=>
 DoX prog (aB 137 t1) w (pk K) fun t10 w=>
 DoX prog (mFA 137 t1 1) w (pk K) fun t11 w=>
 DoX prog (aB 3 t11) w (pk K) fun t12 w=>
 CallX prog 140 #[t10,t12] w (pk K) fun t13 w=>
 DoX prog (mFA 137 t1 0) w (pk K) fun t14 w=>
 DoX prog (aB 9 t14) w (pk K) fun t15 w=>
 DoX prog (mFA 137 t1 1) w (pk K) fun t16 w=>
 DoX prog (aB 3 t16) w (pk K) fun t17 w=>
 DoX prog (bT 9 t15 (some t17) (some t13) none) w (pk K) fun t19 w=>
 JoinX (fun J1=>
 CallX prog 144 #[t19] w (pk K) fun t21 w=>
 DoX prog (mEq .eql 3 (.tmp 21) (.const (.int .i64 1)) t21 (.int .i64 1)) w (pk K) fun t23 w=>
 IfX t23 (CallX prog 145 #[t19] w (pk K) fun t26 w=>
 DoX prog (mExt t26 0) w (pk K) fun t27 w=>
 DoX prog (mExt t26 1) w (pk K) fun t28 w=>
 DoX prog (mEq .neq 24 (.tmp 29) (.const (.int .i64 0)) t28 (.int .i64 0)) w (pk K) fun t30 w=>
 IfX t30 (CallX prog 99 #[t28] w (pk K) fun t32 w=>
 DoX prog (mExt t32 0) w (pk K) fun t33 w=>
 DoX prog (mExt t32 1) w (pk K) fun t34 w=>
 DoX prog (aD 53 t2 t33) w (pk K) fun _ w=>
 RetX prog [.cell t2 53,.val t34] w K) (DoX prog (mFA 137 t1 1) w (pk K) fun t35 w=>
 DoX prog (aB 3 t35) w (pk K) fun t36 w=>
 DoX prog (aG 53 #[(0,(.int .i64 1)),(1,t36),(2,t13),(3,t27)]) w (pk K) fun t39 w=>
 DoX prog (aD 53 t2 t39) w (pk K) fun _ w=>
 RetX prog [.cell t2 53,.val (.int .i64 0)] w K)) (DoX prog (mEq .eql 3 (.tmp 21) (.const (.int .i64 2)) t21 (.int .i64 2)) w (pk K) fun t41 w=>
 IfX t41 (CallX prog 146 #[t19] w (pk K) fun t44 w=>
 DoX prog (mExt t44 0) w (pk K) fun t45 w=>
 DoX prog (mExt t44 1) w (pk K) fun t46 w=>
 DoX prog (mEq .eql 24 (.tmp 47) (.const (.int .i64 0)) t46 (.int .i64 0)) w (pk K) fun t49 w=>
 IfX t49 (DoX prog (mFA 137 t1 1) w (pk K) fun t50 w=>
 DoX prog (aB 3 t50) w (pk K) fun t51 w=>
 DoX prog (aG 53 #[(0,(.int .i64 2)),(1,t51),(2,t13),(3,t45)]) w (pk K) fun t54 w=>
 DoX prog (aD 53 t2 t54) w (pk K) fun _ w=>
 RetX prog [.cell t2 53,.val (.int .i64 0)] w K) (DoX prog (mEq .eql 24 (.tmp 47) (.const (.int .i64 2)) t46 (.int .i64 2)) w (pk K) fun t56 w=>
 IfX t56 (CallX prog 99 #[t46] w (pk K) fun t58 w=>
 DoX prog (mExt t58 0) w (pk K) fun t59 w=>
 DoX prog (mExt t58 1) w (pk K) fun t60 w=>
 DoX prog (aD 53 t2 t59) w (pk K) fun _ w=>
 RetX prog [.cell t2 53,.val t60] w K) (J1 [(.int .i64 0)] w))) (J1 [(.int .i64 0)] w))) (fun vs1 w=>∀_:Sg,oZ t1 t2 t13 t19 w K)
theorem Af (t0:Value)(w:World)(K:Ending→World→Prop):wpX prog 67 [(16,[3])] [] none (aK Tryz.f105) (topQ prog [.cell 2 53,.tmp 3] K) (aJ [t0]) [] w=lD t0 w K:=by kernel_rfl
theorem Ad {t0:Value}{w:World}{K:Ending→World→Prop}(h:lD t0 w K):Calls prog 105 #[t0] w K:=
 aA Tryz.func105 rfl rfl rfl rfl (Eq.mpr (Af t0 w K) h)
end
section
open Eng Go.RowKit
def tokC (x:Lx.Tok):List Value:=[.int .i64 x.k,.int .i64 x.a,.int .i64 x.t,.int .i64 x.n,.string ⟨x.s.toArray⟩]
def tokV (x:Lx.Tok):Value:=.agg (tokC x).toArray
def tokR (r:Lx.Tok×Int):Value:=.tuple #[tokV r.1,.int .i64 r.2]
def cutC (s:List UInt8)(a:Int):List Value:=[.string ⟨s.toArray⟩,.int .i64 a]
def cutV (s:List UInt8)(a:Int):Value:=.agg (cutC s a).toArray
def cutE (b:Nat)(s:List UInt8)(a:Int):Ent:=.cells b (cutC s a) 137
def tokE (b:Nat)(x:Lx.Tok):Ent:=.cells b (tokC x) 53
theorem DJ:aggN prog 53=some 5:=by kernel_rfl
theorem S8:aggN prog 137=some 2:=by kernel_rfl
theorem nStr:dF prog 9=true:=by kernel_rfl
theorem nInt:dF prog 3=true:=by kernel_rfl
theorem Tk:(Tryz.prog.info? 53).map (·.size)=some 5:=by kernel_rfl
section
variable {w:World}{PK:PKT}{K:VWP}{S:Nat→Prop}{w0:World}{L:List Ent}
theorem rE {b:Nat}:DoX prog (mFA 137 (.pointer (some ⟨b,0,none⟩)) 0) w PK K=K (.pointer (some ⟨b,0,none⟩)) w:=cF (show fOff prog 137 0=some 0 by kernel_rfl)
theorem FQ {b:Nat}:DoX prog (mFA 137 (.pointer (some ⟨b,0,none⟩)) 1) w PK K=K (.pointer (some ⟨b,1,none⟩)) w:=cF (show fOff prog 137 1=some 1 by kernel_rfl)
theorem qZ (ho:OwnS S w0 w L)(i:Nat){b:Nat}{s:List UInt8}{a:Int}(hi:L[i]?=some (cutE b s a)):DoX prog (aB 9 (.pointer (some ⟨b,0,none⟩))) w PK K=K (.string ⟨s.toArray⟩) w:=aW nStr (ho.cell i hi 0 rfl)
theorem D9 (ho:OwnS S w0 w L)(i:Nat){b:Nat}{s:List UInt8}{a:Int}(hi:L[i]?=some (cutE b s a)):DoX prog (aB 3 (.pointer (some ⟨b,1,none⟩))) w PK K=K (.int .i64 a) w:=aW nInt (ho.cell i hi 1 rfl)
theorem Bb (ho:OwnS S w0 w L)(i:Nat){b:Nat}{s:List UInt8}{a:Int}(hi:L[i]?=some (cutE b s a)):DoX prog (aB 137 (.pointer (some ⟨b,0,none⟩))) w PK K=K (cutV s a) w:=l_at (ho.agg i hi S8)
theorem Ur (ho:OwnS S w0 w L)(i:Nat){b:Nat}{s:List UInt8}{a:Int}(hi:L[i]?=some (cutE b s a)):(aB 9 (.pointer (some ⟨b,0,none⟩))).run prog w=.ok (.value (.string ⟨s.toArray⟩)) w:=aM nStr (ho.cell i hi 0 rfl)
theorem EX (ho:OwnS S w0 w L)(i:Nat){b:Nat}{s:List UInt8}{a:Int}(hi:L[i]?=some (cutE b s a)):(aB 3 (.pointer (some ⟨b,1,none⟩))).run prog w=.ok (.value (.int .i64 a)) w:=aM nInt (ho.cell i hi 1 rfl)
theorem Uo (ho:OwnS S w0 w L)(i:Nat){b:Nat}{s:List UInt8}{a:Int}(hi:L[i]?=some (cutE b s a)):(aB 137 (.pointer (some ⟨b,0,none⟩))).run prog w=.ok (.value (cutV s a)) w:=bL (ho.agg i hi S8)
theorem Ij (s:List UInt8)(a:Int)(ho:OwnS S w0 w L)(k:∀b w',OwnS S w0 w' (cutE b s a::L)→K (.pointer (some ⟨b,0,none⟩)) w'):DoX prog (mBox 137 (cutV s a)) w PK K:=
 dD (fun b=>.pointer (some ⟨b,0,none⟩)) (cutC s a) 137 (fun _=>by kernel_rfl) ho k
theorem jY (ho:OwnS S w0 w L)(k:∀b w',OwnS S w0 w' (tokE b Lx.none_::L)→K (.pointer (some ⟨b,0,none⟩)) w'):DoX prog (aN 53) w PK K:=
 dD (fun b=>.pointer (some ⟨b,0,none⟩)) (tokC Lx.none_) 53 (fun _=>by kernel_rfl) ho k
theorem IL (x:Lx.Tok):∀v∈tokC x,v.oneCell'=true:=by
 intro v hv;simp only[tokC,List.mem_cons,List.not_mem_nil,or_false] at hv;rcases hv with rfl|rfl|rfl|rfl|rfl<;>rfl
theorem cM {KE:Ending→World→Prop}(i:Nat){b:Nat}{x y:Lx.Tok}{e:Int}(ho:Own w0 w L)(hi:L[i]?=some (tokE b x))(k:∀w',Own w0 w' (L.set i (tokE b y))→KE (.returned (tokR (y,e))) w') :
  DoX prog (aD 53 (.pointer (some ⟨b,0,none⟩)) (tokV y)) w PK fun _ w=>RetX prog [.cell (.pointer (some ⟨b,0,none⟩)) 53,.val (.int .i64 e)] w KE:=by
 refine Bq i ho hi (new:=tokC y) Tk (IL y) rfl fun w' ho'=>?_;have hi':(L.set i (tokE b y))[i]?=some (tokE b y):=by
  have:=(List.getElem?_eq_some_iff.1 hi).1;simp[this]
 exact uU (bC (ho'.agg i hi' DJ)) dR (k w' ho')
theorem BN {a b:Value}:(mExt (.tuple #[a,b]) 0).run prog w=.ok (.value a) w:=by kernel_rfl
theorem BE {a b:Value}:(mExt (.tuple #[a,b]) 1).run prog w=.ok (.value b) w:=by kernel_rfl
theorem x_0 {a b:Value}:DoX prog (mExt (.tuple #[a,b]) 0) w PK K=K a w:=aT (by kernel_rfl)
theorem x_1 {a b:Value}:DoX prog (mExt (.tuple #[a,b]) 1) w PK K=K b w:=aT (by kernel_rfl)
theorem bX {KE:Ending→World→Prop}{PK1 PK2 PK3 PK4:PKT}(i:Nat){b:Nat}{x:Lx.Tok}{r:Lx.Tok×Int}{f:Nat}{args:Array Value}(ho:Own w0 w L)(hi:L[i]?=some (tokE b x))
  (h:Ret prog f args w (fun v w'=>v=tokR r∧Below w.heap.size w w')) (k:∀w',Below w0.heap.size w0 w'→KE (.returned (tokR r)) w') :
  CallX prog f args w PK1 fun t w=>DoX prog (mExt t 0) w PK2 fun u w=>DoX prog (mExt t 1) w PK3 fun v w=>DoX prog (aD 53 (.pointer (some ⟨b,0,none⟩)) u) w PK4 fun _ w=>RetX prog [.cell (.pointer (some ⟨b,0,none⟩)) 53,.val v] w KE:=by
 refine aS ho h ?_;rintro v w' rfl ho';rw[tokR,x_0,x_1];exact cM i ho' hi fun w' ho=>k w' ho.done
theorem BV:DoX prog (aG 53 #[]) w PK K=K (tokV Lx.none_) w:=aT (by kernel_rfl)
theorem UU {a t:Int}:DoX prog (aG 53 #[(1,.int .i64 a),(2,.int .i64 t)]) w PK K=K (tokV ⟨0,a,t,0,[]⟩) w:=aT (by kernel_rfl)
theorem Mj {k a t:Int}{s:List UInt8}:DoX prog (aG 53 #[(0,.int .i64 k),(1,.int .i64 a),(2,.int .i64 t),(4,.string ⟨s.toArray⟩)]) w PK K=K (tokV ⟨k,a,t,0,s⟩) w:=aT (by kernel_rfl)
theorem Vd {k a t:Int}{s:List UInt8}:(aG 53 #[(0,.int .i64 k),(1,.int .i64 a),(2,.int .i64 t),(4,.string ⟨s.toArray⟩)]).run prog w=.ok (.value (tokV ⟨k,a,t,0,s⟩)) w:=by kernel_rfl
theorem SZ {k a t n:Int}:DoX prog (aG 53 #[(0,.int .i64 k),(1,.int .i64 a),(2,.int .i64 t),(3,.int .i64 n)]) w PK K=K (tokV ⟨k,a,t,n,[]⟩) w:=aT (by kernel_rfl)
end
theorem dA (e:Int)(w:World):Ret prog 99 #[.int .i64 e] w (fun v w'=>v=tokR (Lx.refused e)∧Below w.heap.size w w'):=by
 refine aO fun K hK=>Ee ?_;unfold sG;refine jY (Own.start w) fun b w1 ho=>?_;rw[BV];exact cM 0 ho rfl fun w' ho=>hK _ _ ⟨rfl,ho.done⟩
theorem Ep (s:List UInt8)(a k t:Int)(x:List UInt8)(most:Int)(w:World):Ret prog 138 #[cutV s a,.int .i64 k,.int .i64 t,.string ⟨x.toArray⟩,.int .i64 most] w (fun v w'=>v=tokR (Lx.told k a t x most)∧Below w.heap.size w w'):=by
 refine aO fun K hK=>Al ?_;unfold kV;refine Ij s a (Own.start w) fun b1 w1 ho=>?_;refine jY ho fun b w2 ho=>?_;by_cases h:most < (x.length:Int)
 ·simp only[rs,bD Tryz.underlying9,h,decide_true];exact bX 0 ho rfl (dA 5 _) fun w' hb=>hK _ _ ⟨by rw[Lx.told,if_pos h],hb⟩
 ·simp only[rs,bD Tryz.underlying9,h,decide_false,FQ,D9 ho 1 rfl,Mj];exact cM 0 ho rfl fun w' ho=>hK _ _ ⟨by rw[Lx.told,if_neg h],ho.done⟩
theorem HX (s:List UInt8)(a n:Nat)(w:World)(hs:s.length≤1099511627776)(h:a+n≤s.length):Ret prog 101 #[cutV s a,.int .i64 n] w (fun v w'=>v=tokR (Lx.mark s a n)∧Below w.heap.size w w'):=by
 refine aO fun K hK=>Ac ?_;unfold lA;refine Ij s a (Own.start w) fun b1 w1 ho=>?_;refine jY ho fun b w2 ho=>?_;have f1:fOff prog 137 1=some 1:=by kernel_rfl
 have f0:fOff prog 137 0=some 0:=by kernel_rfl
 have hw:IntKind.wrap .i64 ((a:Int)+(n:Int))=((a+n:Nat):Int):=by rw[aC (by omega) (by omega)];simp
 refine quiet (q_do _ (fun _=>aY f1) (q_at _ (fun _ hb=>EX (ho.grow hb) 1 rfl) (q_do _ (fun _=>aY f1) (q_at _ (fun _ hb=>EX (ho.grow hb) 1 rfl) (q_do _ (fun _=>by rw[Eg,hw]) ?_)))));refine q_do _ (fun _=>aY f0) (q_at _ (fun _ hb=>Ur (ho.grow hb) 1 rfl) (q_do _ (fun _=>aY f1) (q_at _ (fun _ hb=>EX (ho.grow hb) 1 rfl) (q_do _ (fun _=>aY f1) (q_at _ (fun _ hb=>EX (ho.grow hb) 1 rfl) (q_do _ (fun _=>by rw[Eg,hw]) ?_))))));refine q_do (.string ⟨(Lx.cut s a (a+n)).toArray⟩) (fun w=>?_) (q_do _ (fun _=>Vd) ?_)
 ·have:=@sW prog w 9 s .i64 .i64 (a:Int) ((a+n:Nat):Int) Tryz.underlying9 (by omega) (by omega) (by omega);rw[this];rfl
 ·intro w3 hb;exact cM 0 (ho.grow hb) rfl fun w' ho=>hK _ _ ⟨rfl,ho.done⟩
theorem PL (s:List UInt8)(a:Int)(i:Nat)(w:World)(hs:s.length≤1099511627776)(h:i≤s.length):Ret prog 140 #[cutV s a,.int .i64 i] w (fun v w'=>v=.int .i64 (Lx.run s i)∧Below w.heap.size w w'):=by
 refine aO fun K hK=>AU ?_;unfold mV;refine Ij s a (Own.start w) fun b1 w1 ho=>?_;refine loop (fun vs w'=>∃(j:Nat),vs=[.int .i64 j]∧j≤s.length∧Lx.run s j=Lx.run s i∧w1=w') (fun vs _=>s.length - n0 vs) ⟨i,rfl,h,rfl,rfl⟩ ?_;rintro vs w2 ⟨j,rfl,hj,he,rfl⟩ _;simp only[pY,gd,rE,qZ ho 0 rfl,bD Tryz.underlying9];rw[rF];by_cases hlt:(j:Int) < (s.length:Int)
 ·have hi2:j < s.length:=by omega
  have hd:=Lx.drop_cons hi2;have hx:∀{PK K},DoX prog (mIx 9 (.string ⟨s.toArray⟩) (.int .i64 (j:Int))) w1 PK K=K (.int .u8 (s[j].toNat:Int)) w1:=s_ix (c:=s[j]) Tryz.underlying9 (Int.natCast_nonneg j) (by simp[hi2]);simp only[hlt,decide_true,rs,rE,qZ ho 0 rfl,hx];refine c_eq (AQ s[j] w1) ?_;cases hr:Oc.regular s[j] with
 |true=>
   simp only[rs];rw[aC (by omega) (by omega)];refine bG ⟨j+1,rfl,by omega,?_,rfl⟩ (by simp[n0,RowKit.intOf];omega);rw[←he,Lx.run,Lx.run,hd,Lx.runF,if_pos hr];omega
 |false=>
   simp only[rs];refine hK _ _ ⟨?_,ho.done⟩;rw[←he,Lx.run,hd,Lx.runF,if_neg (by simp[hr])];simp
 ·have hi2:j=s.length:=by omega
  subst hi2;simp only[hlt,decide_false,rs,g_un];refine hK _ _ ⟨?_,ho.done⟩;rw[←he,Lx.run,List.drop_length];simp[Lx.runF]
theorem Qf (s:List UInt8)(a:Int)(i:Nat)(w:World)(hs:s.length≤1099511627776)(h:i < s.length):Ret prog 142 #[cutV s a,.int .i64 i] w (fun v w'=>v=.tuple #[.int .i64 (if Lx.eol s[i] then (Lx.line s i:Int) else (i:Int)),.bool (Lx.eol s[i])]∧Below w.heap.size w w'):=by
 refine aO fun K hK=>A6 ?_;unfold mX;refine Ij s a (Own.start w) fun b1 w1 ho=>?_;have hx:∀{PK K},DoX prog (mIx 9 (.string ⟨s.toArray⟩) (.int .i64 (i:Int))) w1 PK K=K (.int .u8 (s[i].toNat:Int)) w1:=s_ix (c:=s[i]) Tryz.underlying9 (Int.natCast_nonneg i) (by simp[h]);have e1:=u8d s[i] 13 13 rfl;have e2:=u8d s[i] 10 10 rfl;have fin:∀e:Lx.eol s[i]=true,CallX prog 162 #[.string ⟨s.toArray⟩,.int .i64 i] w1 (pk K) fun t21 w=>K (.returned (.tuple #[t21,(.bool true)])) w:=by
  intro e;refine c_eq (Rv s i w1 (by omega) (by omega)) ?_;exact hK _ _ ⟨by rw[e];rfl,ho.done⟩
 by_cases h1:s[i]=13
 ·simp only[rE,qZ ho 0 rfl,hx,rs,e1,decide_eq_true h1,g_un];exact fin (by simp[Lx.eol,h1])
 simp only[rE,qZ ho 0 rfl,hx,rs,e1,decide_eq_false h1];by_cases h2:s[i]=10
 ·simp only[rs,e2,decide_eq_true h2,g_un];exact fin (by simp[Lx.eol,h2])
 simp only[rs,e2,decide_eq_false h2,g_un];exact hK _ _ ⟨by simp[Lx.eol,h1,h2],ho.done⟩
end
section
open Eng Go.RowKit
theorem JA:∀n m:Fin 16,bOr .i64 (IntKind.wrap .i64 ((n.val:Int)*2 ^ (min (4:Int).toNat IntKind.i64.bits))) (m.val:Int)=((16*n.val+m.val:Nat):Int):=by decide +kernel
theorem U6 {a b:Int}(ha:0≤a)(ha2:a≤15)(hb:0≤b)(hb2:b≤15):bOr .i64 (IntKind.wrap .i64 (a*2 ^ (min (4:Int).toNat IntKind.i64.bits))) b=16*a+b:=by
 have:=JA ⟨a.toNat,by omega⟩ ⟨b.toNat,by omega⟩;simp only at this;rw[Int.toNat_of_nonneg ha,Int.toNat_of_nonneg hb] at this;rw[this];omega
theorem zP {a b:Int}(ha:0≤a)(ha2:a≤15)(hb:0≤b)(hb2:b≤15):((Lx.byte a b).toNat:Int)=16*a+b:=by
 rw[Lx.byte,UInt8.toNat_ofNat'];omega
theorem FO:∀(n:Nat) (l:List UInt8),l.length≤n→l.length % 2=1→Lx.unhex l=none
|_,[],_,h=>by simp at h
|_,[_],_,_=>rfl
|0,_::_::_,h,_=>by simp at h
|n+1,a::b::t,hl,h=>by
  simp only[List.length_cons] at hl h;rw[Lx.unhex,FO n t (by omega) (by omega)];simp
theorem HG {s:List UInt8}{i:Nat}(h:i+1 < s.length):Lx.unhex (s.drop i)=if Lx.digit s[i] < 0∨Lx.digit s[i+1] < 0 then none else (Lx.unhex (s.drop (i+2))).map (Lx.byte (Lx.digit s[i]) (Lx.digit s[i+1])::·):=by
 rw[Lx.drop_cons (show i < s.length by omega),Lx.drop_cons h,Lx.unhex]
theorem pK {s:List UInt8}(h:Lx.unhex s=none):Lx.BC s=([],3):=by rw[Lx.BC,h]
theorem uB {s x:List UInt8}(h:Lx.unhex s=some x):Lx.BC s=(x,0):=by rw[Lx.BC,h]
theorem m_b1 {n:Int}(w:World)(c:UInt8)(h:(c.toNat:Int)=n):(aP 66 1 #[(0,.int .u8 n)]).run prog w=.ok (.value (.slice (some ⟨w.heap.size,0,none⟩) [c].length [c].length)) (w.alloc (.cells (bS [c]).toArray 5)):=by
 subst h;kernel_rfl
theorem BB {S:Nat→Prop}{w0 w:World}{L:List Ent}{v:Value}{l:List UInt8}{n:Int}{cs:Array Bool}{PK PK2:PKT}{K:VWP}(c:UInt8)(h:(c.toNat:Int)=n)
  (ho:OwnS S w0 w (BRow v l::L)) (hb:l.length+1≤140737488355328) (k:∀v' w',OwnS S w0 w' (BRow v' (l++[c])::L)→K v' w') :
  DoX prog (aP 66 1 #[(0,.int .u8 n)]) w PK fun t w=>DoX prog (mB .append #[66,66] 66 cs #[v,t]) w PK2 K:=
 UQ (m:=[c]) (fun w=>m_b1 w c h) ho (by simpa using hb) k
theorem c_8 {w:World}{PK:PKT}{K:VWP}{n:Int}:DoX prog (cP 3 5 (.int .i64 n)) w PK K=K (.int .u8 (IntKind.wrap .u8 n)) w:=
 H4 (show (Tryz.prog.underlying 3).isSome=true by kernel_rfl) Tryz.underlying5
theorem c_64 {w:World}{PK:PKT}{K:VWP}{n:Int}(h0:0≤n)(h1:n≤255):DoX prog (cP 5 3 (.int .u8 n)) w PK K=K (.int .i64 n) w:=by
 rw[H4 (show (Tryz.prog.underlying 5).isSome=true by kernel_rfl) Tryz.underlying3,aC (by omega) (by omega)]
 attribute [local congr] iA in
theorem PJ (s:List UInt8)(w:World)(hs:s.length≤1099511627776):Ret prog 141 #[.string ⟨s.toArray⟩] w (fun v w'=>v=.tuple #[.string ⟨(Lx.BC s).1.toArray⟩,.int .i64 (Lx.BC s).2]∧Below w.heap.size w w'):=by
  refine aO fun K hK=>Ef ?_;unfold sJ;rw[bD Tryz.underlying9,Ll (by omega)];have hr:((s.length:Int).tmod 2)=((s.length % 2:Nat):Int):=by rw[Int.tmod_eq_emod_of_nonneg (by omega)];omega
  rw[hr];by_cases hodd:s.length % 2=1
  ·rw[hodd];simp only[rs];have hu:¬((1:Nat):Int)=0:=by omega
   simp only[hu,decide_true,decide_not,decide_false,Bool.not_false,rs];exact hK _ _ ⟨by rw[pK (FO _ s (Nat.le_refl _) hodd)],(Own.start w).done⟩
  have heven:s.length % 2=0:=by omega
  have hq:((s.length:Int).tdiv 2)=((s.length / 2:Nat):Int):=by rw[Int.tdiv_eq_ediv_of_nonneg (by omega)];omega
  rw[heven];simp only[rs,ne_eq,Int.natCast_zero,not_true,decide_false];rw[bD Tryz.underlying9,Rj (by omega),hq,aC (by omega) (by omega)];refine SP (c:=s.length / 2) rfl Tryz.underlying66 (show elB prog 5 1 1=true by kernel_rfl) (by omega) (by omega) (Own.start w) fun v w1 h1=>?_;refine loop (fun vs w'=>∃(i:Nat) (v:Value) (acc:List UInt8),vs=[v,.int .i64 i]∧i≤s.length∧i % 2=0∧acc.length≤i∧Lx.unhex s=(Lx.unhex (s.drop i)).map (acc++·)∧Own w w' [BRow v acc])
   (fun vs _=>s.length - n1 vs) ⟨0,v,[],rfl,by omega,rfl,by simp,by simp,by simpa[BRow,bS] using h1⟩ ?_
  rintro vs w2 ⟨i,v,acc,rfl,hi,hi0,ha,he,ho⟩ _;simp only[yP,gd,bD Tryz.underlying9];rw[rF];by_cases hlt:(i:Int) < (s.length:Int)
  ·have hi2:i+1 < s.length:=by omega
   have hi3:i < s.length:=by omega
   simp only[hlt,decide_true,i_t];have b1:=Lx.nP s[i];have b2:=Lx.nP s[i+1];have hw1:IntKind.wrap .i64 ((i:Int)+1)=((i+1:Nat):Int):=by rw[aC (by omega) (by omega)];omega
   have hc1:s[(i:Int).toNat]?=some s[i]:=by simp[hi3]
   have hc2:s[((i+1:Nat):Int).toNat]?=some s[i+1]:=by rw[Int.toNat_natCast];simp[hi2]
   refine quiet (q_do _ (fun w=>nS (c:=s[i]) Tryz.underlying9 (Int.natCast_nonneg i) hc1) ?_);refine oP (.int .i64 (Lx.digit s[i])) (fun w hb=>uN (Gd s[i] w) hb) ?_;refine q_do (.int .i64 ((i+1:Nat):Int)) (fun w=>by rw[Eg,hw1]) ?_;refine q_do _ (fun w=>nS (c:=s[i+1]) Tryz.underlying9 (Int.natCast_nonneg _) hc2) ?_;refine oP (.int .i64 (Lx.digit s[i+1])) (fun w hb=>uN (Gd s[i+1] w) hb) ?_;intro w3 hb3;have ho:=ho.grow hb3;rw[HG hi2] at he;simp +contextual only[rs,gs];by_cases hbad:Lx.digit s[i] < 0∨Lx.digit s[i+1] < 0
   ·have hb:(decide (Lx.digit s[i] < 0)||decide (Lx.digit s[i+1] < 0))=true:=by simpa using hbad
    simp only[hb,i_t];rw[if_pos hbad] at he;exact hK _ _ ⟨by rw[pK he],ho.done⟩
   have hb:(decide (Lx.digit s[i] < 0)||decide (Lx.digit s[i+1] < 0))=false:=by simpa using hbad
   simp only[hb,i_f];rw[if_neg hbad] at he;rw[T9 (by omega),b_or,U6 (by omega) (by omega) (by omega) (by omega),c_8,gH (by omega) (by omega)];refine BB (Lx.byte (Lx.digit s[i]) (Lx.digit s[i+1])) (zP (by omega) (by omega) (by omega) (by omega)) ho (by omega) fun v' w4 ho=>?_;rw[aC (by omega) (by omega)];refine bG ⟨i+2,v',_,rfl,by omega,by omega,by simp;omega,?_,ho⟩ (by simp[n1,RowKit.intOf];omega);rw[he,Option.map_map]
   congr 1
   funext x;simp
  ·have hi2:i=s.length:=by omega
   subst hi2;simp only[hlt,decide_false,i_f];rw[EK 0 ho rfl];rw[List.drop_length,Lx.unhex,Option.map_some,List.append_nil] at he;exact hK _ _ ⟨by rw[uB he],ho.done⟩
end
section
open Eng Go.RowKit
theorem P8 (s:List UInt8)(i:Nat):Lx.cut s i i=[]:=by simp[Lx.cut]
theorem Bu {s:List UInt8}{i j:Nat}(h:i < j)(hj:j≤s.length):Lx.cut s i j=s[i]::Lx.cut s (i+1) j:=by
 unfold Lx.cut;rw[Lx.drop_cons (show i < s.length by omega),show j - i=(j - (i+1))+1 by omega,List.take_succ_cons]
theorem zS {s:List UInt8}{i j:Nat}(hj:j≤s.length):(Lx.cut s i j).length=j - i:=by
 unfold Lx.cut;simp;omega
theorem EY {s:List UInt8}{i:Nat}(h:i < s.length):Lx.cut s i (i+1)=[s[i]]:=by rw[Bu (by omega) (by omega),P8]
theorem TC {s:List UInt8}{i:Nat}(h:i+1 < s.length):Lx.cut s i (i+2)=[s[i],s[i+1]]:=by rw[Bu (by omega) (by omega),EY h]
theorem HO {s:List UInt8}{i j:Nat}{x y:Int}{w:World}{PK:PKT}{K:VWP}(hx:x=(i:Int))(hy:y=(j:Int))(h:i≤j)(hj:j≤s.length) :
  DoX prog (bT 9 (.string ⟨s.toArray⟩) (some (.int .i64 x)) (some (.int .i64 y)) none) w PK K=K (.string ⟨(Lx.cut s i j).toArray⟩) w:=by
 subst hx;subst hy;rw[Ic Tryz.underlying9 (by omega) (by omega) (by omega)];rfl
theorem s_at {s:List UInt8}{i:Nat}{w:World}{PK:PKT}{K:VWP}(h:i < s.length) :
  DoX prog (mIx 9 (.string ⟨s.toArray⟩) (.int .i64 (i:Int))) w PK K=K (.int .u8 (s[i].toNat:Int)) w:=
 s_ix (c:=s[i]) Tryz.underlying9 (Int.natCast_nonneg i) (by simp[h])
theorem Ol (a b:UInt8):Lx.BC [a,b]=if Lx.digit a < 0∨Lx.digit b < 0 then ([],3) else ([Lx.byte (Lx.digit a) (Lx.digit b)],0):=by
 by_cases h:Lx.digit a < 0∨Lx.digit b < 0
 ·rw[if_pos h];exact pK (by rw[Lx.unhex,if_pos h])
 ·rw[if_neg h];exact uB (by rw[Lx.unhex,if_neg h,Lx.unhex];rfl)
theorem QJ (s:List UInt8)(a:Nat)(w:World)(hs:s.length≤1099511627776)(ha:a < s.length):Ret prog 103 #[cutV s a] w (fun v w'=>v=tokR (Lx.name s a)∧Below w.heap.size w w'):=by
 refine aO fun K hK=>Aq ?_;unfold kW;refine Ij s a (Own.start w) fun b1 w1 ho=>?_;refine jY ho fun b w2 ho=>?_;have hw1:IntKind.wrap .i64 ((a:Int)+1)=((a+1:Nat):Int):=by rw[aC (by omega) (by omega)];omega
 simp only[Bb ho 1 rfl,FQ,D9 ho 1 rfl,rs,hw1];have hto:=Lx.Hs s (show a+1≤s.length by omega);have hto2:a+1≤Lx.run s (a+1):=by unfold Lx.run;omega
 refine aS ho (PL s a (a+1) w2 hs (by omega)) ?_;rintro _ w3 rfl ho;simp only[FQ,D9 ho 1 rfl,rs,hw1];generalize hT:Lx.run s (a+1)=tt at *;refine loop (fun vs w'=>∃(i:Nat) (v d:Value) (acc:List UInt8),vs=[d,v,.int .i64 i]∧a+1≤i∧i≤tt∧acc.length≤i∧Lx.dJ (Lx.cut s (a+1) tt)=(Lx.dJ (Lx.cut s i tt)).map (acc++·)∧Own w w' [BRow v acc,tokE b Lx.none_,cutE b1 s a])
  (fun vs _=>tt - n2 vs) ⟨a+1,_,_,[],rfl,by omega,hto2,by simp,by simp,ho.Az _ 1⟩ ?_
 rintro vs w4 ⟨i,v,d,acc,rfl,hi1,hi2,hacc,he,ho⟩ _;simp only[oD,gd];rw[rF];by_cases hlt:(i:Int) < (tt:Int)
 ·have hi3:i < tt:=by omega
  have hi4:i < s.length:=by omega
  simp only[hlt,decide_true,i_t,rE,qZ ho 2 rfl,s_at hi4];rw[Bu hi3 hto] at he;have e1:=u8d s[i] 35 35 rfl;refine join fun J hJ=>?_;have fin:∀(j:Nat) (c:UInt8) (n:Int) (d:Value) (w5:World),(c.toNat:Int)=n→i≤j→j < tt→Lx.dJ (Lx.cut s (a+1) tt)=(Lx.dJ (Lx.cut s (j+1) tt)).map (acc++c::·)→Own w w5 [BRow v acc,tokE b Lx.none_,cutE b1 s a]→J [d,.int .i64 j,.int .u8 n] w5:=by
   intro j c n d w5 hc hij hjt he ho;refine hJ _ _ fun _=>?_;simp only[oM,gd];refine BB c hc ho (by omega) fun v' w6 ho=>?_;rw[CX,aC (by omega) (by omega)];refine bG ⟨j+1,v',_,acc++[c],rfl,by omega,by omega,by simp;omega,?_,ho⟩ (by simp[n2,RowKit.intOf];omega);rw[he]
   congr 1
   funext x;simp
  by_cases h35:s[i]=35
  ·simp only[rs,e1,decide_eq_true h35];rw[aC (by omega) (by omega)];by_cases hend:(tt:Int)≤(i:Int)+2
   ·simp only[hend,decide_true,i_t];refine bX 1 ho rfl (dA 3 _) fun w' hb=>hK _ _ ⟨?_,hb⟩;have hn:Lx.dJ (s[i]::Lx.cut s (i+1) tt)=none:=by
     have hl:=zS (s:=s) (i:=i+1) hto;cases hc:Lx.cut s (i+1) tt with
    |nil=>simp[Lx.dJ,h35]
    |cons x t=>
      cases t with
     |nil=>simp[Lx.dJ,h35]
     |cons y t=>rw[hc] at hl;simp at hl;omega
    rw[hn] at he;simp only[Lx.name,hT,he,Option.map_none]
   ·simp only[hend,decide_false,i_f,rs,rE,qZ ho 2 rfl];rw[aC (n:=(i:Int)+1) (by omega) (by omega),aC (n:=(i:Int)+3) (by omega) (by omega),HO (i:=i+1) (j:=i+3) (by simp) (by simp) (by omega) (by omega)];have hi5:i+1 < s.length:=by omega
    have hi6:i+2 < s.length:=by omega
    rw[show Lx.cut s (i+1) (i+3)=[s[i+1],s[i+2]] from TC (i:=i+1) (by omega)];have hlist:s[i]::Lx.cut s (i+1) tt=s[i]::s[i+1]::s[i+2]::Lx.cut s (i+3) tt:=by
     rw[Bu (show i+1 < tt by omega) hto,Bu (show i+1+1 < tt by omega) hto]
    rw[hlist,Lx.dJ,if_pos h35] at he;have b1:=Lx.nP s[i+1];have b2:=Lx.nP s[i+2];refine aS ho (PJ [s[i+1],s[i+2]] w4 (by simp)) ?_;rintro _ w5 rfl ho;have bad:(Lx.digit s[i+1] < 0∨Lx.digit s[i+2] < 0∨16*Lx.digit s[i+1]+Lx.digit s[i+2]=0)→Lx.name s a=Lx.refused 3:=by
     intro h;rw[if_pos h] at he;simp only[Lx.name,hT,he,Option.map_none]
    rw[x_0,x_1,Ol];by_cases hbad:Lx.digit s[i+1] < 0∨Lx.digit s[i+2] < 0
    ·rw[if_pos hbad];simp only[rs,g_un,ne_eq,show ¬((3:Int)=0) by decide,not_false_eq_true,decide_true];refine bX 1 ho rfl (dA 3 _) fun w' hb=>hK _ _ ⟨?_,hb⟩;rw[bad (by rcases hbad with h|h<;>simp[h])]
    ·rw[if_neg hbad];have hb0:=zP (a:=Lx.digit s[i+1]) (b:=Lx.digit s[i+2]) (by omega) (by omega) (by omega) (by omega);simp only[rs,g_un,ne_eq,not_true,decide_false];by_cases hz:16*Lx.digit s[i+1]+Lx.digit s[i+2]=0
     ·have hbz:Lx.byte (Lx.digit s[i+1]) (Lx.digit s[i+2])=0:=UInt8.toNat_inj.1 (by have:((0:UInt8).toNat:Int)=0:=rfl;omega);rw[hbz];simp only[rs,decide_true];refine bX 1 ho rfl (dA 3 _) fun w' hb=>hK _ _ ⟨?_,hb⟩;rw[bad (.inr (.inr hz))]
     ·have hbz:¬([Lx.byte (Lx.digit s[i+1]) (Lx.digit s[i+2])]=[(0:UInt8)]):=by
       intro h
       injection h with h _
       rw[h] at hb0;exact hz (by rw[←hb0];rfl)
      rw[if_neg (by omega)] at he;simp only[rs,hbz,decide_false];rw[s_ix (c:=Lx.byte (Lx.digit s[i+1]) (Lx.digit s[i+2])) Tryz.underlying9 (by omega) rfl];refine fin (i+2) _ _ _ _ rfl (by omega) (by omega) ?_ ho;rw[he,Option.map_map];rfl
  ·simp only[rs,e1,decide_eq_false h35];refine fin i s[i] _ _ _ rfl (by omega) hi3 ?_ ho;rw[he,Lx.Es h35,Option.map_map];rfl
 ·have hi3:i=tt:=by omega
  subst hi3;simp only[hlt,decide_false,i_f,Bb ho 2 rfl,EK 0 ho rfl];rw[P8,Lx.dJ,Option.map_some,List.append_nil] at he;refine bX 1 ho rfl (Ep s a 4 i acc 127 _) fun w' hb=>hK _ _ ⟨?_,hb⟩;simp only[Lx.name,hT,he]
end
section
open Eng Go.RowKit
theorem E4 (n:Int):IntKind.wrap .u8 n=n % 256:=by
 simp[IntKind.wrap,IntKind.signed,IntKind.bits]
theorem Tl (c:UInt8):match Lx.escL c with
 |some b=>∃k:Nat,Lib.indexByte [110,114,116,98,102] c=(k:Int)∧k < 5∧Lx.cut [10,13,9,8,12] k (k+1)=[b]
 |none=>Lib.indexByte [110,114,116,98,102] c=-1:=by
 by_cases h1:c=110
 ·subst h1;exact⟨0,by decide,by decide,by decide⟩
 by_cases h2:c=114
 ·subst h2;exact⟨1,by decide,by decide,by decide⟩
 by_cases h3:c=116
 ·subst h3;exact⟨2,by decide,by decide,by decide⟩
 by_cases h4:c=98
 ·subst h4;exact⟨3,by decide,by decide,by decide⟩
 by_cases h5:c=102
 ·subst h5;exact⟨4,by decide,by decide,by decide⟩
 have e:Lx.escL c=none:=by simp[Lx.escL,h1,h2,h3,h4,h5]
 rw[e];have g:∀x:UInt8,c≠x→(x==c)=false:=fun x hx=>by simpa using fun h:x=c=>hx h.symm
 simp[Lib.indexByte,g _ h1,g _ h2,g _ h3,g _ h4,g _ h5]
theorem SU {S:Nat→Prop}{w0 w:World}{L:List Ent}{n:Int}{PK PK2:PKT}{K:VWP}(c:UInt8)(h:(c.toNat:Int)=n)(ho:OwnS S w0 w L)
  (k:∀w',OwnS S w0 w' L→K (.string ⟨[c].toArray⟩) w') :
  DoX prog (aP 66 1 #[(0,.int .u8 n)]) w PK fun t w=>DoX prog (cP 66 9 t) w PK2 K:=by
 refine dD (fun b=>.slice (some ⟨b,0,none⟩) [c].length [c].length) (bS [c]) 5 (fun w=>m_b1 w c h) ho fun b w' ho'=>?_;rw[EZ (l:=[c]) Tryz.underlying66 Tryz.underlying5 Tryz.underlying9 (ho'.sl 0 rfl 1 [c].length [c].length rfl)];exact k _ ho'.tail
theorem Le (s:List UInt8)(a:Int)(i:Nat)(w:World)(hs:s.length≤1099511627776)(h:i < s.length):Ret prog 143 #[cutV s a,.int .i64 i] w (fun v w'=>v=.tuple #[.string ⟨(Lx.escF (s.drop i)).1.toArray⟩,.int .i64 ((i+(Lx.escF (s.drop i)).2:Nat):Int)]∧Below w.heap.size w w'):=by
 refine aO fun K hK=>uO ?_;unfold fM;refine Ij s a (Own.start w) fun b1 w1 ho=>?_;simp only[rE,qZ ho 0 rfl,s_at h];refine c_eq (jO [110,114,116,98,102] s[i] w1) ?_;have hd:=Lx.drop_cons h;have hx:=Tl s[i];cases hl:Lx.escL s[i] with
|some b=>
  rw[hl] at hx;obtain⟨k,hk,hk5,hc⟩:=hx;have hn:(0:Int)≤(k:Int):=by omega
  simp only[hk,rs,hn,decide_true];rw[aC (n:=(k:Int)+1) (by omega) (by omega),aC (n:=(i:Int)+1) (by omega) (by omega)];rw[show (⟨#[10,13,9,8,12]⟩:ByteArray)=⟨([10,13,9,8,12]:List UInt8).toArray⟩ from rfl,HO (i:=k) (j:=k+1) rfl (by simp) (by omega) (by simp;omega),hc];exact hK _ _ ⟨by rw[hd,Lx.escF,hl];simp,ho.done⟩
|none=>
  rw[hl] at hx;simp only[hx,rs,show ¬((0:Int)≤-1) by decide,decide_false,Bb ho 0 rfl];refine aS ho (Qf s a i w1 hs h) ?_;rintro _ w2 rfl ho;rw[x_0,x_1];cases he:Lx.eol s[i] with
 |true=>
   simp only[if_true,rs];refine hK _ _ ⟨?_,ho.done⟩;rw[hd,Lx.escF,hl];simp only[he,if_true,Lx.line,hd]
 |false=>
   simp only[Bool.false_eq_true,if_false,i_f];have hE:Lx.escF (s.drop i)=if 0 < (Lx.octF 3 0 (s.drop i)).2 then ([UInt8.ofNat (Lx.octF 3 0 (s.drop i)).1],(Lx.octF 3 0 (s.drop i)).2) else ([s[i]],1):=by
    rw[hd,Lx.escF,hl];simp only[he,Bool.false_eq_true,if_false]
   refine loop (fun vs w'=>∃(j n:Nat),vs=[.int .i64 n,.int .i64 j]∧i≤j∧j≤i+3∧j≤s.length∧n < 8 ^ (j - i)∧Lx.octF 3 0 (s.drop i)=((Lx.octF (3 - (j - i)) n (s.drop j)).1,(Lx.octF (3 - (j - i)) n (s.drop j)).2+(j - i))∧Own w w' [cutE b1 s a])
    (fun vs _=>i+3 - n1 vs) ⟨i,0,rfl,by omega,by omega,by omega,by simp,by simp,ho⟩ ?_
   rintro vs w3 ⟨j,n,rfl,hj1,hj2,hj3,hn,ho8,ho⟩ _;simp only[kS,gd,rE,qZ ho 0 rfl,bD Tryz.underlying9];have hn2:n < 512:=Nat.lt_of_lt_of_le hn (Nat.pow_le_pow_right (by decide) (by omega:j - i≤3));have stop:Lx.octF (3 - (j - i)) n (s.drop j)=(n,0)→IfX (.bool (decide ((i:Int) < (j:Int)))) (DoX prog (cP 3 5 (.int .i64 n)) w3 (pk K) fun t73 w=>
     DoX prog (aP 66 1 #[(0,t73)]) w (pk K) fun t74 w=>
     DoX prog (cP 66 9 t74) w (pk K) fun t75 w=>
     K (.returned (.tuple #[t75,.int .i64 j])) w) (DoX prog (bT 9 (.string ⟨s.toArray⟩) (some (.int .i64 i)) (some (.int .i64 (IntKind.wrap .i64 ((i:Int)+1)))) none) w3 (pk K) fun t82 w=>
     K (.returned (.tuple #[t82,.int .i64 (IntKind.wrap .i64 ((i:Int)+1))])) w):=by
    intro h0;rw[h0] at ho8;by_cases hij:(i:Int) < (j:Int)
    ·simp only[hij,decide_true,i_t];rw[c_8,E4];refine SU (UInt8.ofNat n) (by rw[UInt8.toNat_ofNat'];omega) ho fun w' ho=>?_;refine hK _ _ ⟨?_,ho.done⟩;rw[hE,ho8,if_pos (by simp;omega)];simp only;rw[show i+(0+(j - i))=j by omega]
    ·simp only[hij,decide_false,i_f];rw[aC (by omega) (by omega),HO (i:=i) (j:=i+1) rfl (by simp) (by omega) (by omega),EY h];refine hK _ _ ⟨?_,ho.done⟩;rw[hE,ho8,if_neg (by simp;omega)];simp
   by_cases hlt:(j:Int) < (s.length:Int)
   ·have hj4:j < s.length:=by omega
    have hdj:=Lx.drop_cons hj4;by_cases hj5:(j:Int) < (i:Int)+3
    ·obtain⟨m,hm⟩:∃m,3 - (j - i)=m+1:=⟨3 - (j - i) - 1,by omega⟩;have hw3:IntKind.wrap .i64 ((i:Int)+3)=(i:Int)+3:=aC (by omega) (by omega);rw[hm,hdj,Lx.octF] at ho8;by_cases h48:(48:Int)≤(s[j].toNat:Int)
     ·by_cases h55:(s[j].toNat:Int)≤55
      ·have hoct:Lx.oct s[j]=true:=by simp[Lx.oct];omega
       simp only[hlt,decide_true,rs,hw3,hj5,rE,qZ ho 0 rfl,s_at hj4,h48,h55];rw[gH (by omega) (by omega),c_64 (by omega) (by omega)];simp only[rs];rw[aC (n:=8*(n:Int)) (by omega) (by omega),aC (by omega) (by omega),aC (by omega) (by omega)];rw[if_pos hoct] at ho8;refine bG ⟨j+1,8*n+(s[j].toNat - 48),by simp;omega,by omega,by omega,by omega,?_,?_,ho⟩ (by simp[n1,RowKit.intOf];omega)
       ·rw[show j+1 - i=(j - i)+1 by omega,Nat.pow_succ];omega
       ·rw[ho8,show 3 - (j+1 - i)=m by omega];refine Prod.ext rfl ?_;simp only;omega
      ·simp only[hlt,decide_true,rs,hw3,hj5,rE,qZ ho 0 rfl,s_at hj4,h48,h55,decide_false,g_un];refine stop ?_;rw[hm,hdj,Lx.octF,if_neg];simp[Lx.oct];omega
     ·simp only[hlt,decide_true,rs,hw3,hj5,rE,qZ ho 0 rfl,s_at hj4,h48,decide_false,g_un];refine stop ?_;rw[hm,hdj,Lx.octF,if_neg];simp[Lx.oct];omega
    ·have hw3:IntKind.wrap .i64 ((i:Int)+3)=(i:Int)+3:=aC (by omega) (by omega);simp only[hlt,decide_true,rs,hw3,hj5,rE,qZ ho 0 rfl,decide_false,g_un];refine stop ?_;rw[show 3 - (j - i)=0 by omega,Lx.octF]
   ·simp only[hlt,decide_false,rs,rE,qZ ho 0 rfl,g_un];refine stop ?_;rw[show j=s.length by omega,List.drop_length];cases 3 - (s.length - i)<;>rfl
end
section
open Eng Go.RowKit
theorem KL {w0 w:World}{L:List Ent}(i:Nat){b:Nat}{v:Value}{l:List UInt8}(ho:Own w0 w L)(hi:L[i]?=some (Bld b v l)):Ret prog 30 #[.pointer (some ⟨b,0,none⟩)] w (fun r w'=>r=.string ⟨l.toArray⟩∧Own w0 w' L):=by
 refine (nR (ho.at_ i hi)).mono ?_;rintro r w' ⟨e',⟨rfl,rfl⟩,ht⟩;have:=ho.turn i hi ht;have e:L.set i (Bld b v l)=L:=by
  obtain⟨h1,h2⟩:=List.getElem?_eq_some_iff.1 hi;rw[←h2];exact List.set_getElem_self h1
 rw[e] at this;exact⟨rfl,this⟩
theorem Ul {w0 w:World}{L:List Ent}{x:Value}{f:Nat}{args:Array Value}(ho:Own w0 w L)(h:Ret prog f args w (fun v w'=>v=x∧Below w.heap.size w w')):Ret prog f args w (fun r w'=>r=x∧Own w0 w' L):=
 h.mono fun _ _ r=>⟨r.1,ho.grow r.2⟩
theorem Fs {s:List UInt8}{i o:Nat}(h:i < s.length)(he:Lx.eol s[i]=true):Lx.bP 0 o (s.drop i)=(Lx.bP 0 o (s.drop (Lx.line s i))).map fun r=>(10::r.1,r.2+(Lx.line s i - i)):=by
 have hd:=Lx.drop_cons h;have h1:=Lx.Bz s[i] (s.drop (i+1));have h2:=Lx.Ci (s.drop i);rw[hd] at h2;have hl:Lx.line s i=i+Lx.cY (s[i]::s.drop (i+1)):=by rw[Lx.line,hd]
 rw[hd,Lx.bP,if_pos he,Lx.CR _ _ _ (by simp at h2 ⊢;omega),Option.map_map,List.drop_drop,hl,show i+1+(Lx.cY (s[i]::s.drop (i+1)) - 1)=i+Lx.cY (s[i]::s.drop (i+1)) by omega]
 congr 1
 funext r
 refine Prod.ext rfl ?_;simp only[Function.comp];omega
theorem JQ {s:List UInt8}{i o:Nat}(h:i+1 < s.length)(he:s[i]=92):Lx.bP 0 o (s.drop i)=(Lx.bP 0 o (s.drop (i+1+(Lx.escF (s.drop (i+1))).2))).map fun r=>((Lx.escF (s.drop (i+1))).1++r.1,r.2+1+(Lx.escF (s.drop (i+1))).2):=by
 have hd:=Lx.drop_cons (show i < s.length by omega);have hd2:=Lx.drop_cons h;have h2:=Lx.K4 (s.drop (i+1));have hn:Lx.eol s[i]=false:=by rw[he];rfl
 rw[hd,Lx.bP,if_neg (by rw[hn];decide),if_pos he];rw[if_neg (by rw[hd2];exact List.cons_ne_nil _ _),Lx.CR _ _ _ h2,Option.map_map,List.drop_drop]
 congr 1
 funext r
 refine Prod.ext rfl ?_;simp only[Function.comp];omega
theorem Rq (s:List UInt8)(a:Nat)(w:World)(hs:s.length≤1099511627776)(ha:a < s.length):Ret prog 104 #[cutV s a] w (fun v w'=>v=tokR (Lx.text s a)∧Below w.heap.size w w'):=by
 refine aO fun K hK=>Ab ?_;unfold lB;refine Ij s a (Own.start w) fun b1 w1 ho=>?_;refine jY ho fun b w2 ho=>?_;refine dD (fun b=>.pointer (some ⟨b,0,none⟩)) [.pointer none,.slice none 0 0] 68 (fun _=>by kernel_rfl) ho fun b4 w3 ho=>?_;have ho:Own w w3 [Bld b4 (.slice none 0 0) [],tokE b Lx.none_,cutE b1 s a]:=OwnS.B3 (l:=[]) (.inl rfl) EO ((ho.Az 5 1).swap);have hw1:IntKind.wrap .i64 ((a:Int)+1)=((a+1:Nat):Int):=by rw[aC (by omega) (by omega)];omega
 simp only[FQ,D9 ho 2 rfl,rs,hw1];refine loop (fun vs w'=>∃(i o:Nat) (v d:Value) (acc:List UInt8),vs=[d,.int .i64 o,.int .i64 i]∧a+1≤i∧i≤s.length∧1≤o∧o≤i∧acc.length≤i∧Lx.bP 0 1 (s.drop (a+1))=(Lx.bP 0 o (s.drop i)).map (fun r=>(acc++r.1,r.2+(i - (a+1))))∧Own w w' [Bld b4 v acc,tokE b Lx.none_,cutE b1 s a])
  (fun vs _=>s.length - n2 vs) ⟨a+1,1,_,_,[],rfl,by omega,by omega,by omega,by omega,by simp,by simp,ho⟩ ?_
 rintro vs w4 ⟨i,o,v,d,acc,rfl,hi1,hi2,ho1,ho2,hacc,he,ho⟩ _;simp only[oW,gd,rE,qZ ho 2 rfl,bD Tryz.underlying9];rw[rF];have bad:∀{w5},Own w w5 [Bld b4 v acc,tokE b Lx.none_,cutE b1 s a]→Lx.bP 0 o (s.drop i)=none→CallX prog 99 #[(.int .i64 4)] w5 (pk K) fun t42 w=>
   DoX prog (mExt t42 0) w (pk K) fun t43 w=>
   DoX prog (mExt t42 1) w (pk K) fun t44 w=>
   DoX prog (aD 53 (.pointer (some ⟨b,0,none⟩)) t43) w (pk K) fun _ w=>
   RetX prog [.cell (.pointer (some ⟨b,0,none⟩)) 53,.val t44] w K:=by
  intro w5 ho hn;rw[hn,Option.map_none] at he;exact bX 1 ho rfl (dA 4 _) fun w' hb=>hK _ _ ⟨by rw[Lx.text,he],hb⟩
 by_cases hlt:(i:Int) < (s.length:Int)
 ·have hi3:i < s.length:=by omega
  have hd:=Lx.drop_cons hi3;simp only[hlt,decide_true,i_t,Bb ho 2 rfl];refine aS ho (Qf s a i w4 hs hi3) ?_;rintro _ w5 rfl ho;rw[x_0,x_1];cases hE:Lx.eol s[i] with
 |true=>
   simp only[if_true,i_t];have hlp:=Lx.Bz s[i] (s.drop (i+1));have hll:=Lx.Ci (s.drop i);have hL:Lx.line s i=i+Lx.cY (s.drop i):=rfl;rw[←hd] at hlp;rw[List.length_drop] at hll;refine fI 0 ho rfl (gB (k:=10) (ho.at_ 0 rfl) (by omega) rfl (by omega)) ?_;rintro _ _ w6 ⟨rfl,v',rfl⟩ ho;refine bG ⟨Lx.line s i,o,v',_,acc++[10],rfl,by omega,by omega,ho1,by omega,by simp;omega,?_,ho⟩ (by simp[n2,RowKit.intOf];omega);rw[he,Fs hi3 hE,Option.map_map]
   congr 1
   funext r
   refine Prod.ext (by simp) ?_;simp only[Function.comp];omega
 |false=>
   simp only[Bool.false_eq_true,if_false,i_f];refine join fun J hJ=>?_;simp only[rE,qZ ho 2 rfl,s_at hi3];have e1:=u8d s[i] 92 92 rfl;have e2:=u8d s[i] 40 40 rfl;have e3:=u8d s[i] 41 41 rfl;have hne:¬(Lx.eol s[i]=true):=by rw[hE];decide
   rw[hd,Lx.bP,if_neg hne] at he;have hput:∀(o':Nat) (d:Value),1≤o'→o'≤i+1→Lx.bP 0 1 (s.drop (a+1))=(Lx.bP 0 o' (s.drop (i+1))).map (fun r=>(acc++s[i]::r.1,r.2+1+(i - (a+1))))→J [d,.int .i64 o',.int .i64 i] w5:=by
    intro o' d h1 h2 he;refine hJ _ _ fun _=>?_;have h0:¬((o':Int)=0):=by omega
    simp only[iE,gd,rs,h0,decide_false,rE,qZ ho 2 rfl,s_at hi3];refine fI 0 ho rfl (jW (c:=s[i]) (ho.at_ 0 rfl) (by omega)) ?_;rintro _ _ w6 ⟨rfl,v',rfl⟩ ho;rw[aC (by omega) (by omega)];refine bG ⟨i+1,o',v',_,acc++[s[i]],rfl,by omega,by omega,h1,by omega,by simp;omega,?_,ho⟩ (by simp[n2,RowKit.intOf];omega);rw[he]
    congr 1
    funext r
    refine Prod.ext (by simp) ?_;simp only;omega
   by_cases g1:s[i]=92
   ·simp only[rs,e1,decide_eq_true g1];rw[aC (by omega) (by omega)];simp only[rE,qZ ho 2 rfl,bD Tryz.underlying9,rs];rw[if_pos g1] at he;by_cases hend:(i:Int)+1=(s.length:Int)
    ·simp only[hend,decide_true,i_t];refine bad ho ?_;rw[hd,Lx.bP,if_neg hne,if_pos g1,if_pos (List.drop_eq_nil_of_le (by omega))]
    ·have hi4:i+1 < s.length:=by omega
     simp only[hend,decide_false,i_f,Bb ho 2 rfl,rs];rw[show (i:Int)+1=((i+1:Nat):Int) by omega];have hel:=Lx.K4 (s.drop (i+1));rw[List.length_drop] at hel;refine aS ho (Le s a (i+1) w5 hs hi4) ?_;rintro _ w6 rfl ho;rw[x_0,x_1];have hxl:(Lx.escF (s.drop (i+1))).1.length≤1:=by
      rw[Lx.drop_cons hi4,Lx.escF];split
      ·simp
      ·split
       ·simp
       ·split<;>simp
     refine fI 0 ho rfl (cV (ho.at_ 0 rfl) (by omega)) ?_;rintro _ _ w7 ⟨_,v',rfl⟩ ho;refine bG ⟨i+1+(Lx.escF (s.drop (i+1))).2,o,v',_,acc++(Lx.escF (s.drop (i+1))).1,rfl,by omega,by omega,ho1,by omega,by simp;omega,?_,ho⟩ (by simp[n2,RowKit.intOf];omega);have:=JQ (o:=o) hi4 g1;rw[hd,Lx.bP,if_neg hne,if_pos g1] at this;rw[he,this,Option.map_map]
     congr 1
     funext r
     refine Prod.ext (by simp) ?_;simp only[Function.comp];omega
   rw[if_neg g1] at he;simp only[rs,e1,decide_eq_false g1];by_cases g2:s[i]=40
   ·simp only[rs,e2,decide_eq_true g2];rw[aC (by omega) (by omega)];rw[if_pos g2,Option.map_map] at he;exact hput (o+1) d (by omega) (by omega) he
   rw[if_neg g2] at he;simp only[rs,e2,decide_eq_false g2];by_cases g3:s[i]=41
   ·simp only[rs,e3,decide_eq_true g3];rw[aC (by omega) (by omega)];rw[if_pos g3] at he;by_cases g4:o≤1
    ·have g5:(o:Int) - 1=0:=by omega
     rw[if_pos g4,Option.map_some,List.append_nil] at he;rw[g5];refine hJ _ _ fun _=>?_;simp only[iE,gd,rs,decide_true];refine UF (fun w'=>Own w w' [Bld b4 v acc,tokE b Lx.none_,cutE b1 s a]) ho.drew ?_;refine q_at _ (fun _ ho=>Uo ho 2 rfl) ?_;refine q_do (.int .i64 ((i:Int)+1)) (fun _=>by rw[Eg,aC (by omega) (by omega)]) ?_;refine oP _ (fun _ ho=>KL 0 ho rfl) ?_;refine oP (tokR (Lx.told 3 a ((i:Int)+1) acc 32767)) (fun w' ho=>Ul ho (Ep s a 3 _ acc 32767 w')) ?_;refine q_do _ (fun _=>BN) (q_do _ (fun _=>BE) ?_);intro w6 ho;refine cM 1 ho rfl fun w' ho=>hK _ _ ⟨?_,ho.done⟩;simp only[Lx.text,he];rw[show ((a+1+(1+(i - (a+1))):Nat):Int)=(i:Int)+1 by omega]
    ·rw[if_neg g4,Option.map_map] at he;rw[show (o:Int) - 1=((o - 1:Nat):Int) by omega];exact hput (o - 1) d (by omega) (by omega) he
   rw[if_neg g3,Option.map_map] at he;simp only[rs,e3,decide_eq_false g3];exact hput o d ho1 (by omega) he
 ·have hi3:i=s.length:=by omega
  simp only[hlt,decide_false,i_f];refine bad ho ?_;rw[hi3,List.drop_length];rfl
end
section
open Eng Go.RowKit
def n3 (vs:List Value):Nat:=(RowKit.intOf (vs.getD 3 undef)).toNat
theorem hexS {w:World}{PK:PKT}{K:VWP}{a:Int}(c:Nat)(ha:0≤a)(ha2:a≤15):DoX prog (mBin .shl 3 (.int .i64 a) (.int .u64 4)) w PK K=K (.int .i64 (16*a)) w:=by
 rw[T9 (by omega)];have:=JA ⟨a.toNat,by omega⟩ ⟨0,by omega⟩;have e:a*2 ^ (min (4:Int).toNat IntKind.i64.bits)=16*a:=by
  rw[show (2:Int) ^ (min (4:Int).toNat IntKind.i64.bits)=16 from rfl];omega
 rw[e,aC (by omega) (by omega)]
theorem KO (s:List UInt8)(a:Nat)(w:World)(hs:s.length≤1099511627776)(ha:a < s.length):Ret prog 102 #[cutV s a] w (fun v w'=>v=tokR (Lx.hex s a)∧Below w.heap.size w w'):=by
 refine aO fun K hK=>A8 ?_;unfold nC;refine Ij s a (Own.start w) fun b1 w1 ho=>?_;refine jY ho fun b w2 ho=>?_;have hw1:IntKind.wrap .i64 ((a:Int)+1)=((a+1:Nat):Int):=by rw[aC (by omega) (by omega)];omega
 simp only[FQ,D9 ho 1 rfl,rs,hw1]
 let ext (acc:List UInt8) (n:Nat) (r:(List UInt8×Nat) ⊕ Int):(List UInt8×Nat) ⊕ Int:=match r with|.inl r=>.inl (acc++r.1,r.2+n)|.inr e=>.inr e
 refine loop (fun vs w'=>∃(i:Nat) (h:Int) (v d:Value) (acc:List UInt8),vs=[d,v,.int .i64 h,.int .i64 i]∧a+1≤i∧i≤s.length∧-1≤h∧h≤15∧acc.length≤i∧Lx.hexF (-1) (s.drop (a+1))=ext acc (i - (a+1)) (Lx.hexF h (s.drop i))∧Own w w' [BRow v acc,tokE b Lx.none_,cutE b1 s a])
  (fun vs _=>s.length - n3 vs) ⟨a+1,-1,_,_,[],rfl,by omega,by omega,by omega,by omega,by simp,?_,ho.Az _ 1⟩ ?_
 ·cases Lx.hexF (-1) (s.drop (a+1))<;>simp[ext]
 rintro vs w4 ⟨i,h,v,d,acc,rfl,hi1,hi2,hh1,hh2,hacc,he,ho⟩ _;simp only[pW,gd,rE,qZ ho 2 rfl,bD Tryz.underlying9];rw[rF];have bad:∀(e:Int) {w5},Own w w5 [BRow v acc,tokE b Lx.none_,cutE b1 s a]→Lx.hexF h (s.drop i)=.inr e→CallX prog 99 #[(.int .i64 e)] w5 (pk K) fun t42 w=>
   DoX prog (mExt t42 0) w (pk K) fun t43 w=>
   DoX prog (mExt t42 1) w (pk K) fun t44 w=>
   DoX prog (aD 53 (.pointer (some ⟨b,0,none⟩)) t43) w (pk K) fun _ w=>
   RetX prog [.cell (.pointer (some ⟨b,0,none⟩)) 53,.val t44] w K:=by
  intro e w5 ho hn;rw[hn] at he;exact bX 1 ho rfl (dA e _) fun w' hb=>hK _ _ ⟨by simp only[Lx.hex,he,ext],hb⟩
 by_cases hlt:(i:Int) < (s.length:Int)
 ·have hi3:i < s.length:=by omega
  have hd:=Lx.drop_cons hi3;simp only[hlt,decide_true,i_t];refine join fun J hJ=>?_;simp only[rE,qZ ho 2 rfl,s_at hi3];have e1:=u8d s[i] 62 62 rfl;have go:∀(h':Int) (v' d':Value) (acc':List UInt8) (w5:World),-1≤h'→h'≤15→acc'.length≤i+1→Lx.hexF (-1) (s.drop (a+1))=ext acc' (i+1 - (a+1)) (Lx.hexF h' (s.drop (i+1)))→Own w w5 [BRow v' acc',tokE b Lx.none_,cutE b1 s a]→J [d',v',.int .i64 h'] w5:=by
   intro h' v' d' acc' w5 h1 h2 h3 h4 ho;refine hJ _ _ fun _=>?_;simp only[pT,gd,rs];rw[aC (by omega) (by omega)];exact bG ⟨i+1,h',v',_,acc',rfl,by omega,by omega,h1,h2,h3,h4,ho⟩ (by simp[n3,RowKit.intOf];omega)
  rw[hd,Lx.hexF] at he;have hb0:=Lx.nP s[i];by_cases g1:s[i]=62
  ·simp only[rs,e1,decide_eq_true g1];rw[if_pos g1] at he;refine join fun J3 hJ3=>?_;have fin:∀(v':Value) (acc':List UInt8) (w5:World),acc'=acc++(if 0≤h then [Lx.byte h 0] else [])→Own w w5 [BRow v' acc',tokE b Lx.none_,cutE b1 s a]→J3 [v'] w5:=by
    intro v' acc' w5 hacc' ho;refine hJ3 _ _ fun _=>?_;simp only[pX,gd,rs,Bb ho 2 rfl,EK 0 ho rfl];rw[aC (by omega) (by omega)];refine bX 1 ho rfl (Ep s a 3 _ acc' 32767 _) fun w' hb=>hK _ _ ⟨?_,hb⟩;simp only[Lx.hex,he,ext];rw[hacc',show ((a+1+(1+(i - (a+1))):Nat):Int)=(i:Int)+1 by omega]
   by_cases g2:0≤h
   ·simp only[rs,g2,decide_true];rw[hexS 0 g2 hh2,c_8,E4];have hb:=zP (a:=h) (b:=0) g2 hh2 (by omega) (by omega);refine BB (Lx.byte h 0) (by omega) ho (by omega) fun v' w6 ho=>?_;exact fin _ _ _ (by rw[if_pos g2]) ho
   ·simp only[rs,g2,decide_false];exact fin _ _ _ (by rw[if_neg g2,List.append_nil]) ho
  rw[if_neg g1] at he;simp only[rs,e1,decide_eq_false g1];refine c_eq (Gd s[i] w4) ?_;refine c_eq (rH s[i] w4) ?_;cases hw:Oc.gE s[i] with
 |true=>
   simp only[rs];rw[if_pos hw] at he;refine go h v _ acc _ hh1 hh2 (by omega) ?_ ho;rw[he];cases Lx.hexF h (s.drop (i+1)) with
  |inl r=>simp only[ext];rw[show r.2+1+(i - (a+1))=r.2+(i+1 - (a+1)) by omega]
  |inr e=>rfl
 |false=>
   rw[if_neg (by rw[hw];decide)] at he;by_cases g2:Lx.digit s[i] < 0
   ·simp only[rs,g2,decide_true];refine bad 3 ho ?_;rw[hd,Lx.hexF,if_neg g1,if_neg (by rw[hw];decide),if_pos g2]
   rw[if_neg g2] at he;by_cases g3:h < 0
   ·simp only[rs,g2,g3,decide_false,decide_true];rw[if_pos g3] at he;refine go _ v _ acc _ hb0.1 hb0.2 (by omega) ?_ ho;rw[he];cases Lx.hexF (Lx.digit s[i]) (s.drop (i+1)) with
   |inl r=>simp only[ext];rw[show r.2+1+(i - (a+1))=r.2+(i+1 - (a+1)) by omega]
   |inr e=>rfl
   ·simp only[rs,g2,g3,decide_false];rw[if_neg g3] at he;have hor:=U6 (a:=h) (b:=Lx.digit s[i]) (by omega) (by omega) (by omega) (by omega);rw[T9 (by omega),b_or,hor,c_8,gH (by omega) (by omega)];refine BB (Lx.byte h (Lx.digit s[i])) (zP (by omega) (by omega) (by omega) (by omega)) ho (by omega) fun v' w6 ho=>?_;refine go (-1) v' _ _ _ (by omega) (by omega) (by simp;omega) ?_ ho;rw[he];cases Lx.hexF (-1) (s.drop (i+1)) with
   |inl r=>simp only[ext,List.append_assoc,List.singleton_append];rw[show r.2+1+(i - (a+1))=r.2+(i+1 - (a+1)) by omega]
   |inr e=>rfl
 ·have hi3:i=s.length:=by omega
  simp only[hlt,decide_false,i_f];refine bad 4 ho ?_;rw[hi3,List.drop_length];rfl
end
section
open Eng Go.RowKit
theorem Dt (s cs:List UInt8)(w:World)(hcs:cs.length < 4294967281)(ha:cs.all (fun c=>decide (c.toNat < 128))=true):Ret prog 163 #[.string ⟨s.toArray⟩,.string ⟨cs.toArray⟩] w
  (fun v w'=>v=.string ⟨(s.dropWhile (cs.contains ·)).toArray⟩∧Below w.heap.size w w'):=
 Calls.mono (Any.strings_TrimLeft_laid Tryz.Ud (by kernel_rfl) ⟨s.toArray⟩ ⟨cs.toArray⟩ w (by rw[bO];exact hcs)
  (fun j b hj=>by
   have:=List.all_eq_true.1 ha b (List.mem_of_getElem? hj);simpa using this)) (by rintro e w' ⟨rfl,h⟩;exact retK ⟨rfl,h⟩)
theorem Pk {p:UInt8→Bool}:∀l:List UInt8,l.takeWhile p=l↔∀x∈l,p x=true
|[]=>by simp
|c::t=>by
  have ih:=Pk (p:=p) t;cases h:p c with
 |true=>rw[List.takeWhile_cons_of_pos h];simp[ih,h]
 |false=>rw[List.takeWhile_cons_of_neg (by simp[h])];simp[h]
theorem TP {p:UInt8→Bool}(l:List UInt8):(l.dropWhile p).length≤l.length:=(List.dropWhile_sublist p).length_le
theorem ID (s:List UInt8)(c:UInt8)(w:World):Ret prog 165 #[.string ⟨s.toArray⟩,.string ⟨#[c]⟩] w (fun v w'=>v=.bool (s.contains c)∧w=w'):=by
 refine Calls.mono (Tryz.strings_Contains_one ⟨s.toArray⟩ c w) ?_;rintro e w' ⟨rfl,rfl⟩;refine retK ⟨?_,rfl⟩;have e:decide (0≤Lib.indexByte s c)=s.contains c:=by
  rcases Eu c s with ⟨h1,h2,_⟩|⟨i,h1,h2,h3,_⟩
  ·rw[h1];have hn:s.contains c=false:=by
    rw[List.contains_eq_any_beq,List.any_eq_false];intro x hx;have:=(Pk s).1 h2 x hx;intro h;rw[beq_iff_eq] at h;subst h;simp at this
   rw[hn];rfl
  ·rw[h1];have hy:s.contains c=true:=by
    by_cases h:c∈s
    ·simpa using h
    ·exfalso;have h4:s.takeWhile (fun x=>x != c)=s:=(Pk s).2 fun x hx=>by
      have:x≠c:=fun e=>h (e▸hx);simpa using this
     rw[h4] at h3;have:=congrArg List.length h3;simp at this;omega
   rw[hy];simp
 rw[←e]
theorem Pf (c:UInt8):([43,45]:List UInt8).contains c=Lx.sgn c:=by
 simp[Lx.sgn]
theorem T5 (c:UInt8):([48,49,50,51,52,53,54,55,56,57]:List UInt8).contains c=Lx.dig c:=by
 have:∀n:Fin 256,([48,49,50,51,52,53,54,55,56,57]:List UInt8).contains (UInt8.ofNat n.val)=(decide (48≤n.val)&&decide (n.val≤57)):=by decide +kernel
 have h:=this ⟨c.toNat,c.toNat_lt⟩;simpa[Lx.dig] using h
theorem AV (c:UInt8)(h:Lx.sgn c=true):Lx.dig c=false:=by
 simp only[Lx.sgn,Bool.or_eq_true,decide_eq_true_eq] at h;rcases h with rfl|rfl<;>rfl
theorem Nv (s:List UInt8):(decide (s.length - (s.dropWhile Lx.sgn).length≤1)&&(decide (s.dropWhile Lx.sgn≠[])&&(s.dropWhile Lx.sgn).all Lx.dig))=Lx.cR s:=by
 cases s with
|nil=>rfl
|cons c t=>
  cases hc:Lx.sgn c with
 |false=>
   have h1:(c::t).dropWhile Lx.sgn=c::t:=by rw[List.dropWhile_cons_of_neg (by simp[hc])]
   have h2:Lx.bE (c::t)=c::t:=by simp[Lx.bE,hc]
   rw[h1,Lx.cR,h2];simp
 |true=>
   have h1:(c::t).dropWhile Lx.sgn=t.dropWhile Lx.sgn:=List.dropWhile_cons_of_pos hc;have h2:Lx.bE (c::t)=t:=by simp[Lx.bE,hc]
   rw[h1,Lx.cR,h2];cases t with
  |nil=>rfl
  |cons d u=>
    cases hd:Lx.sgn d with
   |false=>
     have h3:(d::u).dropWhile Lx.sgn=d::u:=by rw[List.dropWhile_cons_of_neg (by simp[hd])]
     rw[h3];simp
   |true=>
     have h3:(d::u).dropWhile Lx.sgn=u.dropWhile Lx.sgn:=List.dropWhile_cons_of_pos hd;have h4:=TP (p:=Lx.sgn) u;have h5:¬((c::d::u).length - ((d::u).dropWhile Lx.sgn).length≤1):=by
      rw[h3];simp only[List.length_cons];omega
     rw[decide_eq_false h5];simp[AV d hd]
theorem Dp {s:List UInt8}(h:Lx.cR s=true):s.dropWhile Lx.sgn=Lx.bE s:=by
 cases s with
|nil=>rfl
|cons c t=>
  cases hc:Lx.sgn c with
 |false=>rw[List.dropWhile_cons_of_neg (by simp[hc])];simp[Lx.bE,hc]
 |true=>
   rw[List.dropWhile_cons_of_pos hc];have h2:Lx.bE (c::t)=t:=by simp[Lx.bE,hc]
   rw[Lx.cR,h2] at h;rw[h2];cases t with
  |nil=>rfl
  |cons d u=>
    cases hd:Lx.sgn d with
   |false=>rw[List.dropWhile_cons_of_neg (by simp[hd])]
   |true=>simp[AV d hd] at h
theorem P5 (s:List UInt8)(w:World)(hs:s.length≤1099511627776):Ret prog 144 #[.string ⟨s.toArray⟩] w (fun v w'=>v=.int .i64 (if Lx.cR s then 1 else if s.contains 46 then 2 else 0)∧Below w.heap.size w w'):=by
 refine aO fun K hK=>GG ?_;unfold AR;refine aS (Own.start w) (Dt s [43,45] w (by decide) rfl) ?_;rintro _ w1 rfl ho;have hds:s.dropWhile (fun x=>([43,45]:List UInt8).contains x)=s.dropWhile Lx.sgn:=by
  congr 1;funext c;exact Pf c
 rw[hds,bD Tryz.underlying9];rw[bD Tryz.underlying9];have hle:=TP (p:=Lx.sgn) s;have hcf:=Nv s;have tl:∀w2,Own w w2 []→Lx.cR s=false→CallX prog 165 #[.string ⟨s.toArray⟩,(.string ⟨#[46]⟩)] w2 (pk K) fun t22 w=>
   IfX t22 (K (.returned (.int .i64 2)) w) (K (.returned (.int .i64 0)) w):=by
  intro w2 ho hi;refine c_eq (ID s 46 w2) ?_;cases hc:s.contains 46 with
 |true=>simp only[rs];exact hK _ _ ⟨by rw[if_neg (by rw[hi];decide),if_pos hc],ho.done⟩
 |false=>simp only[rs];exact hK _ _ ⟨by rw[if_neg (by rw[hi];decide),if_neg (by rw[hc];decide)],ho.done⟩
 simp only[rs];rw[aC (by omega) (by omega)];by_cases h1:(s.length:Int) - ((s.dropWhile Lx.sgn).length:Int)≤1
 ·have h1':s.length - (s.dropWhile Lx.sgn).length≤1:=by omega
  rw[decide_eq_true h1'] at hcf;simp only[h1,decide_true,rs];by_cases h2:s.dropWhile Lx.sgn≠[]
  ·rw[decide_eq_true h2] at hcf;rw[show (⟨#[]⟩:ByteArray)=⟨([]:List UInt8).toArray⟩ from rfl];simp only[rs,decide_eq_true h2];refine aS ho (Mt (s.dropWhile Lx.sgn) [48,49,50,51,52,53,54,55,56,57] w1 (by omega) (by decide) rfl) ?_;rintro _ w2 rfl ho;have ht:decide (Lib.trimS (s.dropWhile Lx.sgn) [48,49,50,51,52,53,54,55,56,57]=[])=(s.dropWhile Lx.sgn).all Lx.dig:=by
    have hp:Fx.cW=Lx.dig:=by funext c;rw[←T5 c,←Bp c]
    have this:=J9 (s.dropWhile Lx.sgn);rw[hp] at this;cases hall:(s.dropWhile Lx.sgn).all Lx.dig with
   |true=>rw[decide_eq_true (this.2 hall)]
   |false=>rw[decide_eq_false (fun e=>by rw[this.1 e] at hall;cases hall)]
   simp only[rs,ht];rw[Bool.true_and,Bool.true_and] at hcf;rw[hcf];cases hi:Lx.cR s with
  |true=>simp only[i_t];exact hK _ _ ⟨by rw[if_pos hi],ho.done⟩
  |false=>simp only[i_f];exact tl w2 ho hi
  ·rw[decide_eq_false h2,Bool.false_and,Bool.and_false] at hcf;rw[show (⟨#[]⟩:ByteArray)=⟨([]:List UInt8).toArray⟩ from rfl];simp only[rs,decide_eq_false h2,g_un];exact tl w1 ho hcf.symm
 ·have h1':¬(s.length - (s.dropWhile Lx.sgn).length≤1):=by omega
  rw[decide_eq_false h1',Bool.false_and] at hcf;simp only[h1,decide_false,rs,g_un];exact tl w1 ho hcf.symm
theorem Jc (c:UInt8)(l:List UInt8)(n:Nat):Lx.val n (l++[c])=10*Lx.val n l+(c.toNat - 48):=by
 unfold Lx.val;rw[List.foldl_append,List.foldl_cons,List.foldl_nil]
theorem NQ (s:List UInt8)(w:World)(hs:s.length≤1099511627776)(hf:Lx.cR s=true):Ret prog 145 #[.string ⟨s.toArray⟩] w (fun v w'=>v=pair (Lx.whole s)∧Below w.heap.size w w'):=by
 refine aO fun K hK=>Gz ?_;unfold A9;refine aS (Own.start w) (Dt s [43,45] w (by decide) rfl) ?_;rintro _ w1 rfl ho;have hds:s.dropWhile (fun x=>([43,45]:List UInt8).contains x)=Lx.bE s:=by
  rw[←Dp hf];congr 1;funext c;exact Pf c
 rw[hds];have hall:(Lx.bE s).all Lx.dig=true:=by
  rw[Lx.cR,Bool.and_eq_true] at hf;exact hf.2
 have hne:s≠[]:=by rintro rfl;simp[Lx.cR,Lx.bE] at hf
 have hlen:(Lx.bE s).length≤s.length:=by rw[←Dp hf];exact TP s
 refine IY Tryz.underlying9 ho fun b w2 ho=>?_;refine loop (fun vs w'=>∃(i:Nat),vs=[.int .i64 ((min (Lx.val 0 ((Lx.bE s).take i)) 2147483648:Nat):Int)]∧i≤(Lx.bE s).length∧Own w w' [.obj b (.stringIter ⟨(Lx.bE s).toArray⟩ i)])
  (fun _ w'=>match w'.heap[b]? with|some (.stringIter _ i)=>(Lx.bE s).length - i|_=>0) ⟨0,rfl,by omega,ho⟩ ?_
 rintro vs w3 ⟨i,rfl,hi,ho⟩ _;simp only[BF,gd];by_cases hlt:i < (Lx.bE s).length
 ·have hdig:=List.all_eq_true.1 hall _ (List.getElem_mem hlt);have hd2:48≤(Lx.bE s)[i].toNat∧(Lx.bE s)[i].toNat≤57:=by simpa[Lx.dig] using hdig
  have h0:w3.heap[b]?=some (.stringIter ⟨(Lx.bE s).toArray⟩ i):=ho.at_ 0 rfl;refine Mg 0 ho rfl (List.getElem?_eq_getElem hlt) (by omega) fun w4 ho=>?_;have h1:w4.heap[b]?=some (.stringIter ⟨(Lx.bE s).toArray⟩ (i+1)):=ho.at_ 0 rfl;simp only[ex,i_t,rs];rw[aC (by omega) (by omega),Ge (by omega) (by omega),H4 (show (Tryz.prog.underlying 21).isSome=true by kernel_rfl) Tryz.underlying2,aC (n:=((Lx.bE s)[i].toNat:Int) - 48) (by omega) (by omega)];simp only[rs];rw[aC (by omega) (by omega),UD];have e:min (10*((min (Lx.val 0 ((Lx.bE s).take i)) 2147483648:Nat):Int)+(((Lx.bE s)[i].toNat:Int) - 48)) 2147483648=((min (Lx.val 0 ((Lx.bE s).take (i+1))) 2147483648:Nat):Int):=by
   rw[List.take_succ_eq_append_getElem hlt,Jc];omega
  rw[e];exact bG ⟨i+1,rfl,by omega,ho⟩ (by simp only[h0,h1];omega)
 ·rw[zT 0 ho rfl (by omega)];have hi2:i=(Lx.bE s).length:=by omega
  simp only[ex,i_f,rs,hi2,List.take_length];by_cases hbig:2147483647 < Lx.val 0 (Lx.bE s)
  ·have h1:(2147483647:Int) < ((min (Lx.val 0 (Lx.bE s)) 2147483648:Nat):Int):=by omega
   simp only[h1,decide_true,i_t];exact hK _ _ ⟨by rw[Lx.whole,if_pos hbig],ho.done⟩
  ·have h1:¬(2147483647:Int) < ((min (Lx.val 0 (Lx.bE s)) 2147483648:Nat):Int):=by omega
   simp only[h1,decide_false,i_f];refine join fun J hJ=>?_;obtain⟨c,t,rfl⟩:∃c t,s=c::t:=by cases s with|nil=>exact absurd rfl hne|cons c t=>exact⟨c,t,rfl⟩
   rw[s_ix (c:=c) Tryz.underlying9 (by omega) rfl];have e1:=u8d c 45 45 rfl;rw[Nat.min_eq_left (by omega)];by_cases h45:c=45
   ·simp only[rs,e1,decide_eq_true h45];refine hJ _ _ fun _=>?_;simp only[uQ,gd];rw[aC (by omega) (by omega)];exact hK _ _ ⟨by rw[Lx.whole,if_neg hbig,if_pos (by rw[h45];rfl)],ho.done⟩
   ·simp only[rs,e1,decide_eq_false h45];refine hJ _ _ fun _=>?_;simp only[uQ,gd];exact hK _ _ ⟨by rw[Lx.whole,if_neg hbig,if_neg (by simpa using h45)],ho.done⟩
theorem Sq (s:List UInt8)(a:Nat)(w:World)(hs:s.length≤1099511627776)(ha:a≤s.length):Ret prog 105 #[cutV s a] w (fun v w'=>v=tokR (Lx.word s a)∧Below w.heap.size w w'):=by
 refine aO fun K hK=>Ad ?_;unfold lD;refine Ij s a (Own.start w) fun b1 w1 ho=>?_;refine jY ho fun b w2 ho=>?_;simp only[Bb ho 1 rfl,FQ,D9 ho 1 rfl];refine aS ho (PL s a a w2 hs ha) ?_;rintro _ w3 rfl ho;have hto:=Lx.Hs s ha;have hto2:a≤Lx.run s a:=by unfold Lx.run;omega
 simp only[rE,FQ,D9 ho 1 rfl,qZ ho 1 rfl];rw[HO rfl rfl hto2 hto];have hcl:(Lx.cut s a (Lx.run s a)).length≤s.length:=by rw[zS hto];omega
 have hW:Lx.word s a=Lx.oL (Lx.cut s a (Lx.run s a)) a (Lx.run s a):=rfl;generalize hT:Lx.cut s a (Lx.run s a)=t at *;generalize Lx.run s a=r at *;refine join fun J hJ=>?_;refine aS ho (P5 t w3 (by omega)) ?_;rintro _ w4 rfl ho;have fin:∀w5 n,Own w w5 [tokE b Lx.none_,cutE b1 s a]→Lx.oL t a r=Lx.told 5 a r t 127→J [.int .i64 n] w5:=by
  intro w5 n ho he;refine hJ _ _ fun _=>?_;simp only[oZ,Bb ho 1 rfl];exact bX 0 ho rfl (Ep s a 5 r t 127 _) fun w' hb=>hK _ _ ⟨by rw[hW,he],hb⟩
 by_cases hi:Lx.cR t=true
 ·rw[if_pos hi];simp only[rs,decide_true];refine aS ho (NQ t w4 (by omega) hi) ?_;rintro _ w5 rfl ho;simp only[pair,ex,rs];by_cases he:(Lx.whole t).2≠0
  ·simp only[decide_eq_true he,i_t];exact bX 0 ho rfl (dA _ _) fun w' hb=>hK _ _ ⟨by rw[hW,Lx.oL,if_pos hi,if_pos he],hb⟩
  ·simp only[decide_eq_false he,i_f,FQ,D9 ho 1 rfl,SZ];exact cM 0 ho rfl fun w' ho=>hK _ _ ⟨by rw[hW,Lx.oL,if_pos hi,if_neg he],ho.done⟩
 rw[if_neg hi];by_cases hp:t.contains 46=true
 ·rw[if_pos hp];simp only[rs,decide_true,show ¬((2:Int)=1) by decide,decide_false];refine aS ho (Qd t w4 (by omega)) ?_;rintro _ w5 rfl ho;simp only[pair,ex,rs];by_cases he:(Fx.read t).2=0
  ·simp only[decide_eq_true he,i_t,FQ,D9 ho 1 rfl,SZ];exact cM 0 ho rfl fun w' ho=>hK _ _ ⟨by rw[hW,Lx.oL,if_neg hi,if_pos ⟨hp,he⟩],ho.done⟩
  simp only[decide_eq_false he,i_f];by_cases he2:(Fx.read t).2=2
  ·simp only[he2,decide_true,i_t];exact bX 0 ho rfl (dA _ _) fun w' hb=>hK _ _ ⟨by rw[hW,Lx.oL,if_neg hi,if_neg (fun h=>he h.2),if_pos ⟨hp,he2⟩],hb⟩
  ·simp only[he2,decide_false,i_f];exact fin _ _ ho (by rw[Lx.oL,if_neg hi,if_neg (fun h=>he h.2),if_neg (fun h=>he2 h.2)])
 ·rw[if_neg hp];simp only[rs,show ¬((0:Int)=1) by decide,show ¬((0:Int)=2) by decide,decide_false];exact fin _ _ ho (by rw[Lx.oL,if_neg hi,if_neg (fun h=>hp h.1),if_neg (fun h=>hp h.1)])
end
section
open Eng Go.RowKit
theorem Oi (s:List UInt8)(c:UInt8)(k:Nat)(hk:k≤s.length):bB s [c] (k:Int)=decide ((s.drop k).head?=some c):=by
 unfold bB;rw[Int.toNat_natCast,decide_eq_true (by omega),decide_eq_true (by omega)];cases hd:s.drop k with
|nil=>simp
|cons d t=>
  by_cases h:d=c
  ·subst h;simp[List.isPrefixOf]
  ·have h11:(c==d)=false:=by simpa using fun e:c=d=>h e.symm
   have h12:¬(some d=some c):=by simpa using h
   rw[List.head?_cons,decide_eq_false h12];simp[List.isPrefixOf,h11]
theorem VZ {w:World}{PK:PKT}{K:VWP}{s:List UInt8}{a:Int}:DoX prog (aG 137 #[(0,.string ⟨s.toArray⟩),(1,.int .i64 a)]) w PK K=K (cutV s a) w:=aT (by kernel_rfl)
theorem zR (s:List UInt8)(i:Int)(w:World)(hs:s.length≤1099511627776):Ret prog 61 #[.string ⟨s.toArray⟩,.int .i64 i] w (fun v w'=>v=tokR (Lx.next s i)∧Below w.heap.size w w'):=by
 refine aO fun K hK=>Jd ?_;unfold Db;refine jY (Own.start w) fun b w1 ho=>?_;have out:(i < 0∨(s.length:Int) < i)→CallX prog 99 #[(.int .i64 1)] w1 (pk K) fun t42 w=>
   DoX prog (mExt t42 0) w (pk K) fun t43 w=>
   DoX prog (mExt t42 1) w (pk K) fun t44 w=>
   DoX prog (aD 53 (.pointer (some ⟨b,0,none⟩)) t43) w (pk K) fun _ w=>
   RetX prog [.cell (.pointer (some ⟨b,0,none⟩)) 53,.val t44] w K:=fun h=>
  bX 0 ho rfl (dA 1 _) fun w' hb=>hK _ _ ⟨by rw[Lx.next,if_pos h],hb⟩
 by_cases h1:i < 0
 ·simp only[rs,h1,decide_true,g_un];exact out (.inl h1)
 simp only[rs,h1,decide_false,bD Tryz.underlying9];by_cases h2:(s.length:Int) < i
 ·simp only[rs,h2,decide_true];exact out (.inr h2)
 simp only[rs,h2,decide_false];have hsk:Lx.eM s i=((Lx.skip s i.toNat:Nat):Int):=by rw[Lx.eM,if_neg (by omega)]
 have hN:Lx.next s i=Lx.token s (Lx.skip s i.toNat):=by rw[Lx.next,if_neg (by omega)]
 have hle:=Lx.Ji s (k:=i.toNat) (by omega);refine c_eq (Mo s i w1 (by omega)) ?_;rw[hsk];generalize Lx.skip s i.toNat=a at *;rw[VZ];refine dD (fun b=>.pointer (some ⟨b,0,none⟩)) (cutC [] 0) 137 (fun _=>by kernel_rfl) ho fun b1 w2 ho=>?_;refine Bq 0 ho rfl (new:=cutC s a) (show _=some 2 by kernel_rfl) (by
  intro v hv;simp only[cutC,List.mem_cons,List.not_mem_nil,or_false] at hv;rcases hv with rfl|rfl<;>rfl) rfl fun w3 ho=>?_
 have ho:Own w w3 [cutE b1 s a,tokE b Lx.none_]:=ho;simp only[FQ,D9 ho 0 rfl,bD Tryz.underlying9,rs];by_cases hend:(a:Int)=(s.length:Int)
 ·simp only[hend,decide_true,i_t];rw[←hend];simp only[D9 ho 0 rfl,UU];refine cM 1 ho rfl fun w' ho=>hK _ _ ⟨?_,ho.done⟩;rw[hN,Lx.token,List.drop_eq_nil_of_le (by omega)]
 have ha:a < s.length:=by omega
 have hd:=Lx.drop_cons ha;simp only[hend,decide_false,i_f];have f1:fOff prog 137 1=some 1:=by kernel_rfl
 have hw1:IntKind.wrap .i64 ((a:Int)+1)=((a+1:Nat):Int):=by rw[aC (by omega) (by omega)];omega
 refine quiet (q_do _ (fun _=>aY f1) (q_at _ (fun _ hb=>EX (ho.grow hb) 0 rfl) (q_do _ (fun _=>aY f1) (q_at _ (fun _ hb=>EX (ho.grow hb) 0 rfl) (q_do _ (fun _=>by rw[Eg,hw1]) ?_)))));refine q_do (.string ⟨([s[a]]:List UInt8).toArray⟩) (fun w=>?_) ?_
 ·have:=@sW prog w 9 s .i64 .i64 (a:Int) ((a+1:Nat):Int) Tryz.underlying9 (by omega) (by omega) (by omega);rw[this,show (s.drop (a:Int).toNat).take (((a+1:Nat):Int).toNat - (a:Int).toNat)=Lx.cut s a (a+1) from rfl,EY ha]
 refine q_do _ (fun _=>aY f1) (q_at _ (fun _ hb=>EX (ho.grow hb) 0 rfl) (q_do _ (fun _=>by rw[Eg,hw1]) ?_));refine oP (.bool (decide ((s.drop (a+1)).head?=some s[a]))) (fun w hb=>uN ?_ hb) ?_
 ·rw[←Oi s s[a] (a+1) (by omega)];exact CT s [s[a]] _ w
 intro w4 hb;have ho:=ho.grow hb;simp only[FQ,D9 ho 0 rfl,s_at ha];have hT:Lx.next s i=if s[a]=91∨s[a]=93∨s[a]=123∨s[a]=125 then Lx.mark s a 1
  else if s[a]=60 then (if (s.drop (a+1)).head?=some s[a] then Lx.mark s a 2 else Lx.hex s a)
  else if s[a]=62 then (if (s.drop (a+1)).head?=some s[a] then Lx.mark s a 2 else Lx.refused 3)
  else if s[a]=47 then Lx.name s a
  else if s[a]=40 then Lx.text s a
  else if s[a]=41 then Lx.refused 3
  else Lx.word s a:=by rw[hN,Lx.token,hd]
 refine join fun J hJ=>?_;have rest:∀b:Bool,(b=true↔(s[a]=91∨s[a]=93∨s[a]=123∨s[a]=125))→J [.bool b] w4:=by
  intro bb hbb;refine hJ _ _ fun _=>?_;simp only[Ds,gd];cases bb with
 |true=>
   simp only[i_t,Bb ho 0 rfl];exact bX 1 ho rfl (HX s a 1 _ hs (by omega)) fun w' hb=>hK _ _ ⟨by rw[hT,if_pos (hbb.1 rfl)],hb⟩
 |false=>
   have hn:¬(s[a]=91∨s[a]=93∨s[a]=123∨s[a]=125):=fun h=>by have:=hbb.2 h;cases this
   rw[if_neg hn] at hT;have two:(s.drop (a+1)).head?=some s[a]→a+2≤s.length:=by
    intro h;cases hdd:s.drop (a+1) with
   |nil=>rw[hdd] at h;cases h
   |cons x t=>
     have:=congrArg List.length hdd;simp at this;omega
   have q1:=u8d s[a] 60 60 rfl;have q2:=u8d s[a] 62 62 rfl;have q3:=u8d s[a] 47 47 rfl;have q4:=u8d s[a] 40 40 rfl;have q5:=u8d s[a] 41 41 rfl;by_cases g1:s[a]=60
   ·simp only[rs,q1,decide_eq_true g1];rw[if_pos g1] at hT;by_cases g:(s.drop (a+1)).head?=some s[a]
    ·simp only[decide_eq_true g,i_t,Bb ho 0 rfl];exact bX 1 ho rfl (HX s a 2 _ hs (two g)) fun w' hb=>hK _ _ ⟨by rw[hT,if_pos g],hb⟩
    ·simp only[decide_eq_false g,i_f,Bb ho 0 rfl];exact bX 1 ho rfl (KO s a _ hs ha) fun w' hb=>hK _ _ ⟨by rw[hT,if_neg g],hb⟩
   rw[if_neg g1] at hT;simp only[rs,q1,decide_eq_false g1];by_cases g2:s[a]=62
   ·simp only[rs,q2,decide_eq_true g2];rw[if_pos g2] at hT;by_cases g:(s.drop (a+1)).head?=some s[a]
    ·simp only[decide_eq_true g,i_t,Bb ho 0 rfl];exact bX 1 ho rfl (HX s a 2 _ hs (two g)) fun w' hb=>hK _ _ ⟨by rw[hT,if_pos g],hb⟩
    ·simp only[decide_eq_false g,i_f];exact bX 1 ho rfl (dA 3 _) fun w' hb=>hK _ _ ⟨by rw[hT,if_neg g],hb⟩
   rw[if_neg g2] at hT;simp only[rs,q2,decide_eq_false g2];by_cases g3:s[a]=47
   ·simp only[rs,q3,decide_eq_true g3,Bb ho 0 rfl];exact bX 1 ho rfl (QJ s a _ hs ha) fun w' hb=>hK _ _ ⟨by rw[hT,if_pos g3],hb⟩
   rw[if_neg g3] at hT;simp only[rs,q3,decide_eq_false g3];by_cases g4:s[a]=40
   ·simp only[rs,q4,decide_eq_true g4,Bb ho 0 rfl];exact bX 1 ho rfl (Rq s a _ hs ha) fun w' hb=>hK _ _ ⟨by rw[hT,if_pos g4],hb⟩
   rw[if_neg g4] at hT;simp only[rs,q4,decide_eq_false g4];by_cases g5:s[a]=41
   ·simp only[rs,q5,decide_eq_true g5];exact bX 1 ho rfl (dA 3 _) fun w' hb=>hK _ _ ⟨by rw[hT,if_pos g5],hb⟩
   rw[if_neg g5] at hT;simp only[rs,q5,decide_eq_false g5,Bb ho 0 rfl];exact bX 1 ho rfl (Sq s a _ hs (by omega)) fun w' hb=>hK _ _ ⟨by rw[hT],hb⟩
 have p1:=u8d s[a] 91 91 rfl;have p2:=u8d s[a] 93 93 rfl;have p3:=u8d s[a] 123 123 rfl;have p4:=u8d s[a] 125 125 rfl;by_cases g1:s[a]=91
 ·simp only[rs,p1,decide_eq_true g1];exact rest true (by simp[g1])
 simp only[rs,p1,decide_eq_false g1];by_cases g2:s[a]=93
 ·simp only[rs,p2,decide_eq_true g2];exact rest true (by simp[g2])
 simp only[rs,p2,decide_eq_false g2];by_cases g3:s[a]=123
 ·simp only[rs,p3,decide_eq_true g3];exact rest true (by simp[g3])
 simp only[rs,p3,decide_eq_false g3];by_cases g4:s[a]=125
 ·simp only[rs,p4,decide_eq_true g4];exact rest true (by simp[g4])
 simp only[rs,p4,decide_eq_false g4];exact rest false (by simp[g1,g2,g3,g4])
end
end Go.Proofs.YtoofficgclghoaaGreatDoor
