/- Texts that go together: LxI SRef03 LxR SHead SRef17 HdA LxS LxT LxU LxV LxW LxX LxY LxZ LxAA LxAB LxAC SLaw04 PlT LxAD SLaw03 LxAE HdB HdC SLaw17 HdD SRef55 ScA ObJ MkB SWrite ObK ObL ObM ObN ObO MkC LxAF LxAG SLaw04B PlW. -/
import Derived.Test.YtkejpieaafeblaaGreatDoorRows
import Derived.Lib.SmallJoins
import Derived.Test.YtkejpieaafeblaaGreatDoorMfgajbapg
import Derived.Test.YtkejpieaafeblaaGreatDoorMjedaldak
import Derived.Test.YtkejpieaafeblaaGreatDoorMchjklpnl
import Derived.Test.YtkejpieaafeblaaGreatDoorMfpdmcfll
set_option linter.defProp false
set_option linter.unusedSimpArgs false
set_option linter.unusedVariables false
set_option maxRecDepth 20000
open Go.Proofs.Tryz (prog)
namespace Go.Proofs.YtkejpieaafeblaaGreatDoor
section
open Eng Go.RowKit
theorem PH (s:List UInt8)(c:UInt8)(k:Nat)(hk:k≤s.length):bG s [c] (k:Int)=decide ((s.drop k).head?=some c):=by
 unfold bG;rw[Yo,Yk (by omega),Yk (by omega)];cases hd:s.drop k with
|nil=>simp
|cons d t=>
  by_cases h:d=c
  ·subst h;simp[List.isPrefixOf]
  ·have h11:(c==d)=false:=by simpa using fun e:c=d=>h e.symm
   have h12:¬(some d=some c):=by simpa using h
   rw[aaR,Yl h12];simp[List.isPrefixOf,h11]
theorem Xq {w:World}{PK:PKT}{K:VWP}{s:List UInt8}{a:Int}:DoX prog (aJ 108 #[(0,.string ⟨s.toArray⟩),(1,.int .i64 a)]) w PK K=K (cutV s a) w:=aU (by kernel_rfl)
theorem B9 (s:List UInt8)(i:Int)(w:World)(hs:s.length≤1099511627776):Ret prog 35 #[.string ⟨s.toArray⟩,.int .i64 i] w (fun v w'=>v=tokR (Lx.next s i)∧Below w.heap.size w w'):=by
 refine aO fun K hK=>Kn ?_;unfold ED iN dx gfx efx cx;refine gJ (Own.start w) fun b w1 ho=>?_;have out:(i < 0∨(s.length:Int) < i)→CallX prog 71 #[(.int .i64 1)] w1 (pk K) fun t42 w=>
   DoX prog (mExt t42 0) w (pk K) fun t43 w=>
   DoX prog (mExt t42 1) w (pk K) fun t44 w=>
   DoX prog (aC 58 (.pointer (some ⟨b,0,none⟩)) t43) w (pk K) fun _ w=>
   RetX prog [.cell (.pointer (some ⟨b,0,none⟩)) 58,.val t44] w K:=fun h=>
  cF 0 ho rfl (dI 1 _) fun w' hb=>hK _ _ ⟨by rw[Lx.next,Yh h],hb⟩
 by_cases h1:i < 0
 ·simp only[rs,h1,Yj,g_un];exact out (.inl h1)
 simp only[rs,h1,Yi,bF Ym];by_cases h2:(s.length:Int) < i
 ·simp only[rs,h2,Yj];exact out (.inr h2)
 simp only[rs,h2,Yi];have hsk:Lx.Ek s i=((Lx.skip s i.toNat:Nat):Int):=by rw[Lx.Ek,Yg (by omega)]
 have hN:Lx.next s i=Lx.token s (Lx.skip s i.toNat):=by rw[Lx.next,Yg (by omega)]
 have hle:=Lx.MX s (k:=i.toNat) (by omega);refine c_eq (Sw s i w1 (by omega)) ?_;rw[hsk];generalize Lx.skip s i.toNat=a at *;rw[Xq];refine cI (fun b=>.pointer (some ⟨b,0,none⟩)) (cutC [] 0) 108 (fun _=>by kernel_rfl) ho fun b1 w2 ho=>?_;refine HE 0 ho rfl (new:=cutC s a) (show _=some 2 by kernel_rfl) (by
  intro v hv;simp only[cutC,Yq,aaZ,or_false] at hv;rcases hv with rfl|rfl<;>rfl) rfl fun w3 ho=>?_
 have ho:Own w w3 [cutE b1 s a,tokE b Lx.none_]:=ho;simp only[G7,F9 ho 0 rfl,bF Ym,rs];by_cases hend:(a:Int)=(s.length:Int)
 ·simp only[hend,Yj,i_t];rw[←hend];simp only[F9 ho 0 rfl,V3];refine cV 1 ho rfl fun w' ho=>hK _ _ ⟨?_,ho.done⟩;rw[hN,Lx.token,YP (by omega)]
 have ha:a < s.length:=by omega
 have hd:=Lx.drop_cons ha;simp only[hend,Yi,i_f];have f1:fOff prog 108 1=some 1:=by kernel_rfl
 have hw1:IntKind.wrap .i64 ((a:Int)+1)=((a+1:Nat):Int):=by rw[aB (by omega) (by omega)];omega
 refine quiet (q_do _ (fun _=>bC f1) (q_at _ (fun _ hb=>IF (ho.grow hb) 0 rfl) (q_do _ (fun _=>bC f1) (q_at _ (fun _ hb=>IF (ho.grow hb) 0 rfl) (q_do _ (fun _=>by rw[EX,hw1]) ?_)))));refine q_do (.string ⟨([s[a]]:List UInt8).toArray⟩) (fun w=>?_) ?_
 ·have:=@wE prog w 9 s .i64 .i64 (a:Int) ((a+1:Nat):Int) Ym (by omega) (by omega) (by omega);rw[this,show (s.drop (a:Int).toNat).take (((a+1:Nat):Int).toNat - (a:Int).toNat)=Lx.cut s a (a+1) from rfl,H9 ha]
 refine q_do _ (fun _=>bC f1) (q_at _ (fun _ hb=>IF (ho.grow hb) 0 rfl) (q_do _ (fun _=>by rw[EX,hw1]) ?_));refine gX (.bool (decide ((s.drop (a+1)).head?=some s[a]))) (fun w hb=>mF ?_ hb) ?_
 ·rw[←PH s s[a] (a+1) (by omega)];exact BS s [s[a]] _ w
 intro w4 hb;have ho:=ho.grow hb;simp only[G7,F9 ho 0 rfl,s_at ha];have hT:Lx.next s i=if s[a]=91∨s[a]=93∨s[a]=123∨s[a]=125 then Lx.mark s a 1
  else if s[a]=60 then (if (s.drop (a+1)).head?=some s[a] then Lx.mark s a 2 else Lx.hex s a)
  else if s[a]=62 then (if (s.drop (a+1)).head?=some s[a] then Lx.mark s a 2 else Lx.refused 3)
  else if s[a]=47 then Lx.name s a
  else if s[a]=40 then Lx.text s a
  else if s[a]=41 then Lx.refused 3
  else Lx.word s a:=by rw[hN,Lx.token,hd]
 refine join fun J hJ=>?_;have rest:∀b:Bool,(b=true↔(s[a]=91∨s[a]=93∨s[a]=123∨s[a]=125))→J [.bool b] w4:=by
  intro bb hbb;refine hJ _ _ fun _=>?_;simp only[Fo,gd,iN,dx,cx];cases bb with
 |true=>
   simp only[i_t,CV ho 0 rfl];exact cF 1 ho rfl (KM s a 1 _ hs (by omega)) fun w' hb=>hK _ _ ⟨by rw[hT,Yh (hbb.1 rfl)],hb⟩
 |false=>
   have hn:¬(s[a]=91∨s[a]=93∨s[a]=123∨s[a]=125):=fun h=>by have:=hbb.2 h;cases this
   rw[Yg hn] at hT;have two:(s.drop (a+1)).head?=some s[a]→a+2≤s.length:=by
    intro h;cases hdd:s.drop (a+1) with
   |nil=>rw[hdd] at h;cases h
   |cons x t=>
     have:=congrArg List.length hdd;simp at this;omega
   have q1:=u8d s[a] 60 60 rfl;have q2:=u8d s[a] 62 62 rfl;have q3:=u8d s[a] 47 47 rfl;have q4:=u8d s[a] 40 40 rfl;have q5:=u8d s[a] 41 41 rfl;by_cases g1:s[a]=60
   ·simp only[rs,q1,Yk g1];rw[Yh g1] at hT;by_cases g:(s.drop (a+1)).head?=some s[a]
    ·simp only[Yk g,i_t,CV ho 0 rfl];exact cF 1 ho rfl (KM s a 2 _ hs (two g)) fun w' hb=>hK _ _ ⟨by rw[hT,Yh g],hb⟩
    ·simp only[Yl g,i_f,CV ho 0 rfl];exact cF 1 ho rfl (MM s a _ hs ha) fun w' hb=>hK _ _ ⟨by rw[hT,Yg g],hb⟩
   rw[Yg g1] at hT;simp only[rs,q1,Yl g1];by_cases g2:s[a]=62
   ·simp only[rs,q2,Yk g2];rw[Yh g2] at hT;by_cases g:(s.drop (a+1)).head?=some s[a]
    ·simp only[Yk g,i_t,CV ho 0 rfl];exact cF 1 ho rfl (KM s a 2 _ hs (two g)) fun w' hb=>hK _ _ ⟨by rw[hT,Yh g],hb⟩
    ·simp only[Yl g,i_f];exact cF 1 ho rfl (dI 3 _) fun w' hb=>hK _ _ ⟨by rw[hT,Yg g],hb⟩
   rw[Yg g2] at hT;simp only[rs,q2,Yl g2];by_cases g3:s[a]=47
   ·simp only[rs,q3,Yk g3,CV ho 0 rfl];exact cF 1 ho rfl (TI s a _ hs ha) fun w' hb=>hK _ _ ⟨by rw[hT,Yh g3],hb⟩
   rw[Yg g3] at hT;simp only[rs,q3,Yl g3];by_cases g4:s[a]=40
   ·simp only[rs,q4,Yk g4,CV ho 0 rfl];exact cF 1 ho rfl (Ty s a _ hs ha) fun w' hb=>hK _ _ ⟨by rw[hT,Yh g4],hb⟩
   rw[Yg g4] at hT;simp only[rs,q4,Yl g4];by_cases g5:s[a]=41
   ·simp only[rs,q5,Yk g5];exact cF 1 ho rfl (dI 3 _) fun w' hb=>hK _ _ ⟨by rw[hT,Yh g5],hb⟩
   rw[Yg g5] at hT;simp only[rs,q5,Yl g5,CV ho 0 rfl];exact cF 1 ho rfl (Sx s a _ hs (by omega)) fun w' hb=>hK _ _ ⟨by rw[hT],hb⟩
 have p1:=u8d s[a] 91 91 rfl;have p2:=u8d s[a] 93 93 rfl;have p3:=u8d s[a] 123 123 rfl;have p4:=u8d s[a] 125 125 rfl;by_cases g1:s[a]=91
 ·simp only[rs,p1,Yk g1];exact rest true (by simp[g1])
 simp only[rs,p1,Yl g1];by_cases g2:s[a]=93
 ·simp only[rs,p2,Yk g2];exact rest true (by simp[g2])
 simp only[rs,p2,Yl g2];by_cases g3:s[a]=123
 ·simp only[rs,p3,Yk g3];exact rest true (by simp[g3])
 simp only[rs,p3,Yl g3];by_cases g4:s[a]=125
 ·simp only[rs,p4,Yk g4];exact rest true (by simp[g4])
 simp only[rs,p4,Yl g4];exact rest false (by simp[g1,g2,g3,g4])
end
section
open Eng
def pI(t0 t1 w)(N1:JT)(K:KT):=
 dx (mB .len #[9] 3 #[false] #[t0]) w K fun t7 w=>dx (mBin .lss 3 t1 t7) w K fun t8 w=>etx t8 t0 w fun t10 w=>etx t8 t1 w fun t11 w=>gtx t8 (mIx 9 t10 t11) w K fun t12 w=>ctx t8 142 #[t12] w K fun t13 w=>dx (aF t8 t13 (.bool false)) w K fun t14 w=>IfX t14 (dx (mBin .add 3 t1 (iN 1)) w K fun t16 w=>N1 [t16] w) (K (.returned t1) w)
def kF(t0 t1 w)(K:KT):=
 LoopX [t1] w (fun vs1 w N1=>∀_:Sg,pI t0 (vs1.getD 0 undef) w N1 K)
theorem AB (t0 t1:Value)(w:World)(K:Ending→World→Prop):wpX prog 18 [] [(1,[1])] none (aY Tryz.f163) (topQ prog [.tmp 4] K) (aR [t0,t1]) [] w=kF t0 t1 w K:=by kernel_rfl
theorem BC {t0 t1:Value}{w:World}{K:Ending→World→Prop}(h:kF t0 t1 w K):Calls prog 163 #[t0,t1] w K:=
 aE Tryz.func163 rfl rfl rfl rfl (Eq.mpr (AB t0 t1 w K) h)
def jM(t0 t3 w)(N2:JT)(K:KT):=
 dx (mB .len #[9] 3 #[false] #[t0]) w K fun t20 w=>dx (mBin .lss 3 t3 t20) w K fun t21 w=>IfX t21 (dx (mIx 9 t0 t3) w K fun t26 w=>dx (mBin .lss 5 t26 (.int .u8 48)) w K fun t27 w=>efx t27 t0 w fun t29 w=>efx t27 t3 w fun t30 w=>gfx t27 (mIx 9 t29 t30) w K fun t31 w=>gfx t27 (mBin .gtr 5 t31 (.int .u8 57)) w K fun t32 w=>dx (aF t27 (.bool true) t32) w K fun t33 w=>IfX t33 (K (.returned (.bool false)) w) (dx (mBin .add 3 t3 (iN 1)) w K fun t23 w=>N2 [t23] w)) (dx (mEq .neq 9 (.tmp 34) (.const (.string ⟨#[]⟩)) t0 (.string ⟨#[]⟩)) w K fun t35 w=>K (.returned t35) w)
def jJ(t0 w)(K:KT):=
 LoopX [(iN 0)] w (fun vs2 w N2=>∀_:Sg,jM t0 (vs2.getD 0 undef) w N2 K)
def eX(t0 w)(K:KT):=
 JoinX (fun J1=>dx (mEq .neq 9 (.tmp 4) (.const (.string ⟨#[]⟩)) t0 (.string ⟨#[]⟩)) w K fun t5 w=>etx t5 t0 w fun t7 w=>gtx t5 (mIx 9 t7 (iN 0)) w K fun t8 w=>gtx t5 (mEq .eql 5 (.tmp 8) (.const (.int .u8 43)) t8 (.int .u8 43)) w K fun t9 w=>etx t5 t9 w fun t10 w=>efx t10 t0 w fun t11 w=>gfx t10 (mIx 9 t11 (iN 0)) w K fun t12 w=>gfx t10 (mEq .eql 5 (.tmp 12) (.const (.int .u8 45)) t12 (.int .u8 45)) w K fun t13 w=>gtx t5 (aF t10 (.bool true) t13) w K fun t14 w=>dx (aF t5 t14 (.bool false)) w K fun t15 w=>IfX t15 (dx (aT 9 t0 (some (iN 1)) none none) w K fun t17 w=>J1 [t17] w) (J1 [t0] w)) (fun vs1 w=>∀_:Sg,jJ (vs1.getD 0 undef) w K)
theorem tT (t0:Value)(w:World)(K:Ending→World→Prop):wpX prog 36 [(3,[0])] [(4,[3])] none (aY Tryz.f218) (topQ prog [.tmp 2] K) (aR [t0]) [] w=eX t0 w K:=by kernel_rfl
theorem tX {t0:Value}{w:World}{K:Ending→World→Prop}(h:eX t0 w K):Calls prog 218 #[t0] w K:=
 aE Tryz.func218 rfl rfl rfl rfl (Eq.mpr (tT t0 w K) h)
def fC(t4 w)(K:KT):=
 K (.returned (.tuple #[t4,(iN 0)])) w
def lL(t4 t5 w)(N1:JT)(K:KT):=
 dx (mBin .add 3 t5 (iN 1)) w K fun t11 w=>N1 [t4,t11] w
def lM(t0 t4 t5 w)(N1:JT)(K:KT):=
 dx (mB .len #[9] 3 #[false] #[t0]) w K fun t8 w=>dx (mBin .lss 3 t5 t8) w K fun t9 w=>IfX t9 (JoinX (fun J2=>dx (mIx 9 t0 t5) w K fun t14 w=>dx (mEq .eql 5 (.tmp 14) (.const (.int .u8 43)) t14 (.int .u8 43)) w K fun t15 w=>efx t15 t0 w fun t17 w=>efx t15 t5 w fun t18 w=>gfx t15 (mIx 9 t17 t18) w K fun t19 w=>gfx t15 (mEq .eql 5 (.tmp 19) (.const (.int .u8 45)) t19 (.int .u8 45)) w K fun t20 w=>dx (aF t15 (.bool true) t20) w K fun t21 w=>IfX t21 (J2 [t4] w) (dx (mBin .mul 2 (iN 10) t4) w K fun t23 w=>dx (mIx 9 t0 t5) w K fun t26 w=>dx (cH 5 2 t26) w K fun t27 w=>dx (mBin .add 2 t23 t27) w K fun t28 w=>dx (mBin .sub 2 t28 (iN 48)) w K fun t29 w=>dx (mBin .gtr 2 t29 (iN 2147483647)) w K fun t31 w=>IfX t31 (K (.returned (.tuple #[(iN 0),(iN 2)])) w) (J2 [t29] w))) (fun vs2 w=>∀_:Sg,lL (vs2.getD 0 undef) t5 w N1 K)) (JoinX (fun J3=>dx (mIx 9 t0 (iN 0)) w K fun t33 w=>dx (mEq .eql 5 (.tmp 33) (.const (.int .u8 45)) t33 (.int .u8 45)) w K fun t34 w=>IfX t34 (dx (mUn .neg t4) w K fun t36 w=>J3 [t36] w) (J3 [t4] w)) (fun vs3 w=>∀_:Sg,fC (vs3.getD 0 undef) w K))
def gL(t0 w)(K:KT):=
 LoopX [(iN 0),(iN 0)] w (fun vs1 w N1=>∀_:Sg,lM t0 (vs1.getD 0 undef) (vs1.getD 1 undef) w N1 K)
theorem wS (t0:Value)(w:World)(K:Ending→World→Prop):wpX prog 38 [(4,[4]),(11,[4])] [(3,[4,5])] none (aY Tryz.f219) (topQ prog [.tmp 2,.tmp 3] K) (aR [t0]) [] w=gL t0 w K:=by kernel_rfl
theorem xH {t0:Value}{w:World}{K:Ending→World→Prop}(h:gL t0 w K):Calls prog 219 #[t0] w K:=
 aE Tryz.func219 rfl rfl rfl rfl (Eq.mpr (wS t0 w K) h)
def lD(t0 t3 w)(N1:JT)(K:KT):=
 dx (mB .len #[9] 3 #[false] #[t0]) w K fun t6 w=>dx (mBin .lss 3 t3 t6) w K fun t7 w=>IfX t7 (dx (mIx 9 t0 t3) w K fun t12 w=>dx (mEq .eql 5 (.tmp 12) (.const (.int .u8 46)) t12 (.int .u8 46)) w K fun t13 w=>IfX t13 (K (.returned (.bool true)) w) (dx (mBin .add 3 t3 (iN 1)) w K fun t9 w=>N1 [t9] w)) (K (.returned (.bool false)) w)
def gN(t0 w)(K:KT):=
 LoopX [(iN 0)] w (fun vs1 w N1=>∀_:Sg,lD t0 (vs1.getD 0 undef) w N1 K)
theorem wI (t0:Value)(w:World)(K:Ending→World→Prop):wpX prog 14 [] [(2,[3])] none (aY Tryz.f220) (topQ prog [.tmp 2] K) (aR [t0]) [] w=gN t0 w K:=by kernel_rfl
theorem vU {t0:Value}{w:World}{K:Ending→World→Prop}(h:gN t0 w K):Calls prog 220 #[t0] w K:=
 aE Tryz.func220 rfl rfl rfl rfl (Eq.mpr (wI t0 w K) h)
def pW(t0 w)(K:KT):=
 dx (aM 58) w K fun t2 w=>cx 218 #[t0] w K fun t7 w=>dx (mUn .not t7) w K fun t8 w=>IfX t8 (dx (aJ 58 #[]) w K fun t9 w=>dx (aC 58 t2 t9) w K fun _ w=>RetX prog [.cell t2 58,.val (iN 5)] w K) (cx 219 #[t0] w K fun t12 w=>dx (mExt t12 0) w K fun t13 w=>dx (mExt t12 1) w K fun t14 w=>dx (aJ 58 #[(0,(iN 1)),(3,t13)]) w K fun t16 w=>dx (aC 58 t2 t16) w K fun _ w=>RetX prog [.cell t2 58,.val t14] w K)
theorem yU{t0 w K}(h:pW t0 w K):Calls prog 217 #[t0] w K:=cw Tryz.func217 rfl rfl (by kernel_rfl) h
def nV(t0 t2 w)(K:KT):=
 dx (mB .len #[9] 3 #[false] #[t0]) w K fun t42 w=>dx (mBin .gtr 3 t42 (iN 127)) w K fun t43 w=>IfX t43 (dx (aJ 58 #[]) w K fun t44 w=>dx (aC 58 t2 t44) w K fun _ w=>RetX prog [.cell t2 58,.val (iN 5)] w K) (dx (aJ 58 #[(0,(iN 5)),(4,t0)]) w K fun t46 w=>dx (aC 58 t2 t46) w K fun _ w=>RetX prog [.cell t2 58,.val (iN 0)] w K)
def iK(t0 w)(K:KT):=
 dx (aM 58) w K fun t2 w=>dx (mB .len #[9] 3 #[false] #[t0]) w K fun t9 w=>dx (mBin .gtr 3 t9 (iN 508)) w K fun t10 w=>IfX t10 (cx 217 #[t0] w K fun t12 w=>dx (mExt t12 0) w K fun t13 w=>dx (mExt t12 1) w K fun t14 w=>dx (aC 58 t2 t13) w K fun _ w=>RetX prog [.cell t2 58,.val t14] w K) (cx 218 #[t0] w K fun t16 w=>IfX t16 (cx 219 #[t0] w K fun t19 w=>dx (mExt t19 0) w K fun t20 w=>dx (mExt t19 1) w K fun t21 w=>dx (aJ 58 #[(0,(iN 1)),(3,t20)]) w K fun t23 w=>dx (aC 58 t2 t23) w K fun _ w=>RetX prog [.cell t2 58,.val t21] w K) (JoinX (fun J1=>cx 220 #[t0] w K fun t26 w=>IfX t26 (cx 221 #[t0] w K fun t29 w=>dx (mExt t29 0) w K fun t30 w=>dx (mExt t29 1) w K fun t31 w=>dx (mEq .eql 30 (.tmp 32) (.const (iN 0)) t31 (iN 0)) w K fun t33 w=>efx t33 t31 w fun t35 w=>gfx t33 (mEq .eql 30 (.tmp 35) (.const (iN 2)) t35 (iN 2)) w K fun t36 w=>dx (aF t33 (.bool true) t36) w K fun t37 w=>IfX t37 (dx (aJ 58 #[(0,(iN 2)),(3,t30)]) w K fun t39 w=>dx (aC 58 t2 t39) w K fun _ w=>RetX prog [.cell t2 58,.val t31] w K) (J1 [(iN 0)] w)) (J1 [(iN 0)] w)) (fun vs1 w=>∀_:Sg,nV t0 t2 w K)))
theorem Al (t0:Value)(w:World)(K:Ending→World→Prop):wpX prog 47 [(10,[3])] [] none (aY Tryz.f167) (topQ prog [.cell 2 58,.tmp 3] K) (aR [t0]) [] w=iK t0 w K:=by kernel_rfl
theorem zO {t0:Value}{w:World}{K:Ending→World→Prop}(h:iK t0 w K):Calls prog 167 #[t0] w K:=
 aE Tryz.func167 rfl rfl rfl rfl (Eq.mpr (Al t0 w K) h)
def oD(t4 t5 t6 w)(N1:JT)(K:KT):=
 dx (aS 76 1 #[(0,t6)]) w K fun t57 w=>dx (mB .append #[76,76] 76 #[false,false] #[t4,t57]) w K fun t58 w=>dx (mBin .add 3 t5 (iN 1)) w K fun t14 w=>N1 [t58,t14] w
def nG(t0 t4 t5 w)(N1:JT)(K:KT):=
 dx (mB .len #[9] 3 #[false] #[t0]) w K fun t11 w=>dx (mBin .lss 3 t5 t11) w K fun t12 w=>IfX t12 (dx (mIx 9 t0 t5) w K fun t17 w=>JoinX (fun J2=>dx (mEq .eql 5 (.tmp 18) (.const (.int .u8 35)) t17 (.int .u8 35)) w K fun t19 w=>IfX t19 (dx (mBin .add 3 t5 (iN 2)) w K fun t21 w=>dx (mB .len #[9] 3 #[false] #[t0]) w K fun t23 w=>dx (mBin .geq 3 t21 t23) w K fun t24 w=>IfX t24 (K (.returned (.tuple #[(.string ⟨#[]⟩),(iN 3)])) w) (QuietX w (fun C3=>QDo prog C3 (mBin .add 3 t5 (iN 1)) fun t27=>QDo prog C3 (mIx 9 t0 t27) fun t28=>QCall prog C3 214 #[t28] fun t29=>QDo prog C3 (mBin .add 3 t5 (iN 2)) fun t32=>QDo prog C3 (mIx 9 t0 t32) fun t33=>QCall prog C3 214 #[t33] fun t34=>
 ∀w,C3 w →
 dx (mBin .lss 3 t29 (iN 0)) w K fun t36 w=>efx t36 t34 w fun t38 w=>gfx t36 (mBin .lss 3 t38 (iN 0)) w K fun t39 w=>dx (aF t36 (.bool true) t39) w K fun t40 w=>efx t40 t29 w fun t42 w=>gfx t40 (mBin .mul 3 (iN 16) t42) w K fun t43 w=>efx t40 t34 w fun t44 w=>gfx t40 (mBin .add 3 t43 t44) w K fun t45 w=>gfx t40 (mEq .eql 3 (.tmp 45) (.const (iN 0)) t45 (iN 0)) w K fun t46 w=>dx (aF t40 (.bool true) t46) w K fun t47 w=>IfX t47 (K (.returned (.tuple #[(.string ⟨#[]⟩),(iN 3)])) w) (dx (mBin .mul 3 (iN 16) t29) w K fun t49 w=>dx (mBin .add 3 t49 t34) w K fun t51 w=>dx (cH 3 5 t51) w K fun t52 w=>dx (mBin .add 3 t5 (iN 2)) w K fun t54 w=>J2 [t54,t52] w)))) (J2 [t5,t17] w)) (fun vs2 w=>∀_:Sg,oD t4 (vs2.getD 0 undef) (vs2.getD 1 undef) w N1 K)) (dx (mB .len #[76] 3 #[false] #[t4]) w K fun t60 w=>dx (mBin .gtr 3 t60 (iN 127)) w K fun t61 w=>IfX t61 (K (.returned (.tuple #[(.string ⟨#[]⟩),(iN 5)])) w) (dx (cH 76 9 t4) w K fun t63 w=>K (.returned (.tuple #[t63,(iN 0)])) w))
def jF(t0 w)(K:KT):=
 LoopX [(.slice none 0 0),(iN 0)] w (fun vs1 w N1=>∀_:Sg,nG t0 (vs1.getD 0 undef) (vs1.getD 1 undef) w N1 K)
theorem zP (t0:Value)(w:World)(K:Ending→World→Prop):wpX prog 64 [(14,[5,6])] [(3,[4,5])] none (aY Tryz.f164) (topQ prog [.tmp 2,.tmp 3] K) (aR [t0]) [] w=jF t0 w K:=by kernel_rfl
theorem zT {t0:Value}{w:World}{K:Ending→World→Prop}(h:jF t0 w K):Calls prog 164 #[t0] w K:=
 aE Tryz.func164 rfl rfl rfl rfl (Eq.mpr (zP t0 w K) h)
def jZ(t0 t1 t10 t11 w)(N2:JT)(K:KT):=
 dx (mB .len #[9] 3 #[false] #[t0]) w K fun t64 w=>dx (mBin .lss 3 t11 t64) w K fun t65 w=>etx t65 t11 w fun t67 w=>etx t65 t1 w fun t68 w=>gtx t65 (mBin .add 3 t68 (iN 4)) w K fun t69 w=>gtx t65 (mBin .lss 3 t67 t69) w K fun t70 w=>dx (aF t65 t70 (.bool false)) w K fun t71 w=>etx t71 t0 w fun t73 w=>etx t71 t11 w fun t74 w=>gtx t71 (mIx 9 t73 t74) w K fun t75 w=>gtx t71 (mBin .geq 5 t75 (.int .u8 48)) w K fun t76 w=>dx (aF t71 t76 (.bool false)) w K fun t77 w=>etx t77 t0 w fun t79 w=>etx t77 t11 w fun t80 w=>gtx t77 (mIx 9 t79 t80) w K fun t81 w=>gtx t77 (mBin .leq 5 t81 (.int .u8 55)) w K fun t82 w=>dx (aF t77 t82 (.bool false)) w K fun t83 w=>IfX t83 (dx (mBin .mul 3 (iN 8) t10) w K fun t85 w=>dx (mIx 9 t0 t11) w K fun t88 w=>dx (cH 5 3 t88) w K fun t89 w=>dx (mBin .add 3 t85 t89) w K fun t90 w=>dx (mBin .sub 3 t90 (iN 48)) w K fun t91 w=>dx (mBin .add 3 t11 (iN 1)) w K fun t93 w=>N2 [t91,t93] w) (dx (mBin .add 3 t1 (iN 1)) w K fun t96 w=>dx (mBin .gtr 3 t11 t96) w K fun t97 w=>IfX t97 (dx (mBin .rem 3 t10 (iN 256)) w K fun t99 w=>dx (cH 3 5 t99) w K fun t100 w=>dx (aS 76 1 #[(0,t100)]) w K fun t101 w=>dx (cH 76 9 t101) w K fun t102 w=>K (.returned (.tuple #[t102,t11])) w) (dx (mBin .add 3 t1 (iN 1)) w K fun t106 w=>dx (mBin .add 3 t1 (iN 2)) w K fun t108 w=>dx (aT 9 t0 (some t106) (some t108) none) w K fun t109 w=>dx (mBin .add 3 t1 (iN 2)) w K fun t111 w=>K (.returned (.tuple #[t109,t111])) w))
def kI(t0 t1 t6 t7 t8 t9 w)(N1:JT)(K:KT):=
 dx (mB .len #[9] 3 #[false] #[t7]) w K fun t18 w=>dx (mBin .lss 3 t9 t18) w K fun t19 w=>IfX t19 (dx (mIx 9 t7 t9) w K fun t25 w=>dx (mEq .eql 5 (.tmp 22) (.tmp 25) t6 t25) w K fun t26 w=>IfX t26 (dx (mBin .add 3 t9 (iN 1)) w K fun t30 w=>dx (aT 9 t8 (some t9) (some t30) none) w K fun t31 w=>dx (mBin .add 3 t1 (iN 2)) w K fun t33 w=>K (.returned (.tuple #[t31,t33])) w) (dx (mBin .add 3 t9 (iN 1)) w K fun t21 w=>N1 [t21] w)) (dx (mEq .eql 5 (.tmp 34) (.const (.int .u8 13)) t6 (.int .u8 13)) w K fun t35 w=>etx t35 t1 w fun t37 w=>gtx t35 (mBin .add 3 t37 (iN 2)) w K fun t38 w=>etx t35 t0 w fun t39 w=>gtx t35 (mB .len #[9] 3 #[false] #[t39]) w K fun t40 w=>gtx t35 (mBin .lss 3 t38 t40) w K fun t41 w=>dx (aF t35 t41 (.bool false)) w K fun t42 w=>etx t42 t0 w fun t44 w=>etx t42 t1 w fun t45 w=>gtx t42 (mBin .add 3 t45 (iN 2)) w K fun t46 w=>gtx t42 (mIx 9 t44 t46) w K fun t47 w=>gtx t42 (mEq .eql 5 (.tmp 47) (.const (.int .u8 10)) t47 (.int .u8 10)) w K fun t48 w=>dx (aF t42 t48 (.bool false)) w K fun t49 w=>IfX t49 (dx (mBin .add 3 t1 (iN 3)) w K fun t51 w=>K (.returned (.tuple #[(.string ⟨#[]⟩),t51])) w) (dx (mEq .eql 5 (.tmp 52) (.const (.int .u8 13)) t6 (.int .u8 13)) w K fun t53 w=>efx t53 t6 w fun t55 w=>gfx t53 (mEq .eql 5 (.tmp 55) (.const (.int .u8 10)) t55 (.int .u8 10)) w K fun t56 w=>dx (aF t53 (.bool true) t56) w K fun t57 w=>IfX t57 (dx (mBin .add 3 t1 (iN 2)) w K fun t59 w=>K (.returned (.tuple #[(.string ⟨#[]⟩),t59])) w) (dx (mBin .add 3 t1 (iN 1)) w K fun t61 w=>LoopX [(iN 0),t61] w (fun vs2 w N2=>∀_:Sg,jZ t0 t1 (vs2.getD 0 undef) (vs2.getD 1 undef) w N2 K))))
def fS(t0 t1 w)(K:KT):=
 dx (mBin .add 3 t1 (iN 1)) w K fun t14 w=>dx (mIx 9 t0 t14) w K fun t15 w=>LoopX [(iN 0)] w (fun vs1 w N1=>∀_:Sg,kI t0 t1 t15 (.string ⟨#[110,114,116,98,102]⟩) (.string ⟨#[10,13,9,8,12]⟩) (vs1.getD 0 undef) w N1 K)
theorem vH (t0 t1:Value)(w:World)(K:Ending→World→Prop):wpX prog 112 [] [(4,[9]),(13,[10,11])] none (aY Tryz.f215) (topQ prog [.tmp 4,.tmp 5] K) (aR [t0,t1]) [] w=fS t0 t1 w K:=by kernel_rfl
theorem uY {t0 t1:Value}{w:World}{K:Ending→World→Prop}(h:fS t0 t1 w K):Calls prog 215 #[t0,t1] w K:=
 aE Tryz.func215 rfl rfl rfl rfl (Eq.mpr (vH t0 t1 w K) h)
def nP(t1 t7 t8 t9 w)(N1:JT)(K:KT):=
 dx (aS 76 1 #[(0,t9)]) w K fun t75 w=>dx (mB .append #[76,76] 76 #[false,false] #[t7,t75]) w K fun t76 w=>dx (mBin .add 3 t1 (iN 1)) w K fun t78 w=>N1 [t78,t76,t8] w
def nJ(t1 t7 t8 t9 w)(N1:JT)(K:KT):=
 JoinX (fun J5=>dx (mEq .eql 5 (.tmp 71) (.const (.int .u8 13)) t9 (.int .u8 13)) w K fun t72 w=>IfX t72 (J5 [(.int .u8 10)] w) (J5 [t9] w)) (fun vs5 w=>∀_:Sg,nP t1 t7 t8 (vs5.getD 0 undef) w N1 K)
def mY(t0 t1 t7 t8 t9 w)(N1:JT)(K:KT):=
 JoinX (fun J4=>dx (mEq .eql 5 (.tmp 53) (.const (.int .u8 13)) t9 (.int .u8 13)) w K fun t54 w=>etx t54 t1 w fun t56 w=>gtx t54 (mBin .add 3 t56 (iN 1)) w K fun t57 w=>etx t54 t0 w fun t58 w=>gtx t54 (mB .len #[9] 3 #[false] #[t58]) w K fun t59 w=>gtx t54 (mBin .lss 3 t57 t59) w K fun t60 w=>dx (aF t54 t60 (.bool false)) w K fun t61 w=>etx t61 t0 w fun t63 w=>etx t61 t1 w fun t64 w=>gtx t61 (mBin .add 3 t64 (iN 1)) w K fun t65 w=>gtx t61 (mIx 9 t63 t65) w K fun t66 w=>gtx t61 (mEq .eql 5 (.tmp 66) (.const (.int .u8 10)) t66 (.int .u8 10)) w K fun t67 w=>dx (aF t61 t67 (.bool false)) w K fun t68 w=>IfX t68 (dx (mBin .add 3 t1 (iN 1)) w K fun t70 w=>J4 [t70] w) (J4 [t1] w)) (fun vs4 w=>∀_:Sg,nJ (vs4.getD 0 undef) t7 t8 t9 w N1 K)
def nY(t0 t1 t7 t8 t9 w)(N1:JT)(K:KT):=
 JoinX (fun J3=>dx (mEq .eql 5 (.tmp 40) (.const (.int .u8 41)) t9 (.int .u8 41)) w K fun t41 w=>IfX t41 (dx (mBin .sub 3 t8 (iN 1)) w K fun t43 w=>dx (mEq .eql 3 (.tmp 44) (.const (iN 0)) t43 (iN 0)) w K fun t45 w=>IfX t45 (dx (mB .len #[76] 3 #[false] #[t7]) w K fun t47 w=>dx (mBin .gtr 3 t47 (iN 32767)) w K fun t48 w=>IfX t48 (K (.returned (.tuple #[(.string ⟨#[]⟩),(iN 0),(iN 5)])) w) (dx (cH 76 9 t7) w K fun t50 w=>dx (mBin .add 3 t1 (iN 1)) w K fun t52 w=>K (.returned (.tuple #[t50,t52,(iN 0)])) w)) (J3 [t43] w)) (J3 [t8] w)) (fun vs3 w=>∀_:Sg,mY t0 t1 t7 (vs3.getD 0 undef) t9 w N1 K)
def mR(t0 t1 t7 t8 w)(N1:JT)(K:KT):=
 dx (mB .len #[9] 3 #[false] #[t0]) w K fun t14 w=>dx (mBin .lss 3 t1 t14) w K fun t15 w=>IfX t15 (dx (mIx 9 t0 t1) w K fun t18 w=>dx (mEq .eql 5 (.tmp 19) (.const (.int .u8 92)) t18 (.int .u8 92)) w K fun t20 w=>IfX t20 (dx (mBin .add 3 t1 (iN 1)) w K fun t22 w=>dx (mB .len #[9] 3 #[false] #[t0]) w K fun t24 w=>dx (mBin .geq 3 t22 t24) w K fun t25 w=>IfX t25 (K (.returned (.tuple #[(.string ⟨#[]⟩),(iN 0),(iN 4)])) w) (cx 215 #[t0,t1] w K fun t29 w=>dx (mExt t29 0) w K fun t30 w=>dx (mExt t29 1) w K fun t31 w=>dx (mB .append #[76,9] 76 #[false,false] #[t7,t30]) w K fun t34 w=>N1 [t31,t34,t8] w)) (JoinX (fun J2=>dx (mEq .eql 5 (.tmp 36) (.const (.int .u8 40)) t18 (.int .u8 40)) w K fun t37 w=>IfX t37 (dx (mBin .add 3 t8 (iN 1)) w K fun t39 w=>J2 [t39] w) (J2 [t8] w)) (fun vs2 w=>∀_:Sg,nY t0 t1 t7 (vs2.getD 0 undef) t18 w N1 K))) (K (.returned (.tuple #[(.string ⟨#[]⟩),(iN 0),(iN 4)])) w)
def jC(t0 t1 w)(K:KT):=
 LoopX [t1,(.slice none 0 0),(iN 1)] w (fun vs1 w N1=>∀_:Sg,mR t0 (vs1.getD 0 undef) (vs1.getD 1 undef) (vs1.getD 2 undef) w N1 K)
theorem Ae (t0 t1:Value)(w:World)(K:Ending→World→Prop):wpX prog 79 [(13,[8]),(19,[8]),(21,[1]),(23,[9])] [(3,[1,7,8])] none (aY Tryz.f165) (topQ prog [.tmp 4,.tmp 5,.tmp 6] K) (aR [t0,t1]) [] w=jC t0 t1 w K:=by kernel_rfl
theorem Ar {t0 t1:Value}{w:World}{K:Ending→World→Prop}(h:jC t0 t1 w K):Calls prog 165 #[t0,t1] w K:=
 aE Tryz.func165 rfl rfl rfl rfl (Eq.mpr (Ae t0 t1 w K) h)
def pC(t1 t7 w)(K:KT):=
 dx (cH 76 9 t7) w K fun t51 w=>cx 216 #[t51] w K fun t52 w=>dx (mExt t52 0) w K fun t53 w=>dx (mExt t52 1) w K fun t54 w=>dx (mB .len #[9] 3 #[false] #[t53]) w K fun t56 w=>dx (mBin .gtr 3 t56 (iN 32767)) w K fun t57 w=>IfX t57 (K (.returned (.tuple #[(.string ⟨#[]⟩),(iN 0),(iN 5)])) w) (dx (mBin .add 3 t1 (iN 1)) w K fun t60 w=>K (.returned (.tuple #[t53,t60,(iN 0)])) w)
def pM(t1 t7 w)(N1:JT)(K:KT):=
 dx (mBin .add 3 t1 (iN 1)) w K fun t37 w=>N1 [t37,t7] w
def oU(t0 t1 t7 w)(N1:JT)(K:KT):=
 dx (mB .len #[9] 3 #[false] #[t0]) w K fun t12 w=>dx (mBin .lss 3 t1 t12) w K fun t13 w=>etx t13 t0 w fun t15 w=>etx t13 t1 w fun t16 w=>gtx t13 (mIx 9 t15 t16) w K fun t17 w=>gtx t13 (mEq .neq 5 (.tmp 17) (.const (.int .u8 62)) t17 (.int .u8 62)) w K fun t18 w=>dx (aF t13 t18 (.bool false)) w K fun t19 w=>IfX t19 (JoinX (fun J2=>dx (mIx 9 t0 t1) w K fun t22 w=>cx 214 #[t22] w K fun t23 w=>dx (mBin .geq 3 t23 (iN 0)) w K fun t24 w=>IfX t24 (dx (mIx 9 t0 t1) w K fun t28 w=>dx (aS 76 1 #[(0,t28)]) w K fun t29 w=>dx (mB .append #[76,76] 76 #[false,false] #[t7,t29]) w K fun t30 w=>J2 [t30] w) (dx (mIx 9 t0 t1) w K fun t33 w=>cx 162 #[t33] w K fun t34 w=>dx (mUn .not t34) w K fun t35 w=>IfX t35 (K (.returned (.tuple #[(.string ⟨#[]⟩),(iN 0),(iN 3)])) w) (J2 [t7] w))) (fun vs2 w=>∀_:Sg,pM t1 (vs2.getD 0 undef) w N1 K)) (dx (mB .len #[9] 3 #[false] #[t0]) w K fun t40 w=>dx (mBin .geq 3 t1 t40) w K fun t41 w=>IfX t41 (K (.returned (.tuple #[(.string ⟨#[]⟩),(iN 0),(iN 4)])) w) (JoinX (fun J3=>dx (mB .len #[76] 3 #[false] #[t7]) w K fun t43 w=>dx (mBin .rem 3 t43 (iN 2)) w K fun t44 w=>dx (mEq .neq 3 (.tmp 44) (.const (iN 0)) t44 (iN 0)) w K fun t45 w=>IfX t45 (dx (aS 76 1 #[(0,(.int .u8 48))]) w K fun t47 w=>dx (mB .append #[76,76] 76 #[false,false] #[t7,t47]) w K fun t48 w=>J3 [t48] w) (J3 [t7] w)) (fun vs3 w=>∀_:Sg,pC t1 (vs3.getD 0 undef) w K)))
def kK(t0 t1 w)(K:KT):=
 LoopX [t1,(.slice none 0 0)] w (fun vs1 w N1=>∀_:Sg,oU t0 (vs1.getD 0 undef) (vs1.getD 1 undef) w N1 K)
theorem Bj (t0 t1:Value)(w:World)(K:Ending→World→Prop):wpX prog 61 [(7,[7]),(12,[7])] [(2,[1,7])] none (aY Tryz.f166) (topQ prog [.tmp 4,.tmp 5,.tmp 6] K) (aR [t0,t1]) [] w=kK t0 t1 w K:=by kernel_rfl
theorem A7 {t0 t1:Value}{w:World}{K:Ending→World→Prop}(h:kK t0 t1 w K):Calls prog 166 #[t0,t1] w K:=
 aE Tryz.func166 rfl rfl rfl rfl (Eq.mpr (Bj t0 t1 w K) h)
def eU(t1 t4 t11 t12 t13 w)(K:KT):=
 dx (mEq .neq 30 (.tmp 128) (.const (iN 0)) t13 (iN 0)) w K fun t129 w=>IfX t129 (dx (aJ 58 #[]) w K fun t130 w=>dx (aC 58 t4 t130) w K fun _ w=>RetX prog [.cell t4 58,.val t13] w K) (dx (aJ 58 #[(0,(iN 3)),(1,t1),(2,t12),(4,t11)]) w K fun t135 w=>dx (aC 58 t4 t135) w K fun _ w=>RetX prog [.cell t4 58,.val (iN 0)] w K)
def gW(t0 t1 w)(K:KT):=
 dx (aM 58) w K fun t4 w=>dx (mIx 9 t0 t1) w K fun t19 w=>dx (mBin .add 3 t1 (iN 1)) w K fun t21 w=>dx (mB .len #[9] 3 #[false] #[t0]) w K fun t23 w=>dx (mBin .lss 3 t21 t23) w K fun t24 w=>etx t24 t0 w fun t26 w=>etx t24 t1 w fun t27 w=>gtx t24 (mBin .add 3 t27 (iN 1)) w K fun t28 w=>gtx t24 (mIx 9 t26 t28) w K fun t29 w=>etx t24 t19 w fun t30 w=>gtx t24 (mEq .eql 5 (.tmp 29) (.tmp 30) t29 t30) w K fun t31 w=>dx (aF t24 t31 (.bool false)) w K fun t32 w=>dx (mEq .eql 5 (.tmp 33) (.const (.int .u8 60)) t19 (.int .u8 60)) w K fun t34 w=>efx t34 t19 w fun t36 w=>gfx t34 (mEq .eql 5 (.tmp 36) (.const (.int .u8 62)) t36 (.int .u8 62)) w K fun t37 w=>dx (aF t34 (.bool true) t37) w K fun t38 w=>etx t38 t32 w fun t40 w=>dx (aF t38 t40 (.bool false)) w K fun t41 w=>IfX t41 (dx (mBin .add 3 t1 (iN 2)) w K fun t44 w=>dx (mBin .add 3 t1 (iN 2)) w K fun t48 w=>dx (aT 9 t0 (some t1) (some t48) none) w K fun t49 w=>dx (aJ 58 #[(0,(iN 6)),(1,t1),(2,t44),(4,t49)]) w K fun t50 w=>dx (aC 58 t4 t50) w K fun _ w=>RetX prog [.cell t4 58,.val (iN 0)] w K) (dx (mEq .eql 5 (.tmp 51) (.const (.int .u8 91)) t19 (.int .u8 91)) w K fun t52 w=>efx t52 t19 w fun t54 w=>gfx t52 (mEq .eql 5 (.tmp 54) (.const (.int .u8 93)) t54 (.int .u8 93)) w K fun t55 w=>dx (aF t52 (.bool true) t55) w K fun t56 w=>efx t56 t19 w fun t58 w=>gfx t56 (mEq .eql 5 (.tmp 58) (.const (.int .u8 123)) t58 (.int .u8 123)) w K fun t59 w=>dx (aF t56 (.bool true) t59) w K fun t60 w=>efx t60 t19 w fun t62 w=>gfx t60 (mEq .eql 5 (.tmp 62) (.const (.int .u8 125)) t62 (.int .u8 125)) w K fun t63 w=>dx (aF t60 (.bool true) t63) w K fun t64 w=>IfX t64 (dx (mBin .add 3 t1 (iN 1)) w K fun t67 w=>dx (mBin .add 3 t1 (iN 1)) w K fun t71 w=>dx (aT 9 t0 (some t1) (some t71) none) w K fun t72 w=>dx (aJ 58 #[(0,(iN 6)),(1,t1),(2,t67),(4,t72)]) w K fun t73 w=>dx (aC 58 t4 t73) w K fun _ w=>RetX prog [.cell t4 58,.val (iN 0)] w K) (dx (mEq .eql 5 (.tmp 74) (.const (.int .u8 62)) t19 (.int .u8 62)) w K fun t75 w=>efx t75 t19 w fun t77 w=>gfx t75 (mEq .eql 5 (.tmp 77) (.const (.int .u8 41)) t77 (.int .u8 41)) w K fun t78 w=>dx (aF t75 (.bool true) t78) w K fun t79 w=>IfX t79 (dx (aJ 58 #[]) w K fun t80 w=>dx (aC 58 t4 t80) w K fun _ w=>RetX prog [.cell t4 58,.val (iN 3)] w K) (dx (mEq .eql 5 (.tmp 81) (.const (.int .u8 47)) t19 (.int .u8 47)) w K fun t82 w=>IfX t82 (dx (mBin .add 3 t1 (iN 1)) w K fun t85 w=>cx 163 #[t0,t85] w K fun t86 w=>dx (mBin .add 3 t1 (iN 1)) w K fun t90 w=>dx (aT 9 t0 (some t90) (some t86) none) w K fun t92 w=>cx 164 #[t92] w K fun t93 w=>dx (mExt t93 0) w K fun t94 w=>dx (mExt t93 1) w K fun t95 w=>dx (mEq .neq 30 (.tmp 96) (.const (iN 0)) t95 (iN 0)) w K fun t97 w=>IfX t97 (dx (aJ 58 #[]) w K fun t98 w=>dx (aC 58 t4 t98) w K fun _ w=>RetX prog [.cell t4 58,.val t95] w K) (dx (aJ 58 #[(0,(iN 4)),(1,t1),(2,t86),(4,t94)]) w K fun t103 w=>dx (aC 58 t4 t103) w K fun _ w=>RetX prog [.cell t4 58,.val (iN 0)] w K)) (dx (mEq .eql 5 (.tmp 104) (.const (.int .u8 40)) t19 (.int .u8 40)) w K fun t105 w=>efx t105 t19 w fun t107 w=>gfx t105 (mEq .eql 5 (.tmp 107) (.const (.int .u8 60)) t107 (.int .u8 60)) w K fun t108 w=>dx (aF t105 (.bool true) t108) w K fun t109 w=>IfX t109 (dx (mBin .add 3 t1 (iN 1)) w K fun t113 w=>cx 165 #[t0,t113] w K fun t114 w=>dx (mExt t114 0) w K fun t115 w=>dx (mExt t114 1) w K fun t116 w=>dx (mExt t114 2) w K fun t117 w=>JoinX (fun J1=>dx (mEq .eql 5 (.tmp 118) (.const (.int .u8 60)) t19 (.int .u8 60)) w K fun t119 w=>IfX t119 (dx (mBin .add 3 t1 (iN 1)) w K fun t123 w=>cx 166 #[t0,t123] w K fun t124 w=>dx (mExt t124 0) w K fun t125 w=>dx (mExt t124 1) w K fun t126 w=>dx (mExt t124 2) w K fun t127 w=>J1 [t125,t126,t127] w) (J1 [t115,t116,t117] w)) (fun vs1 w=>∀_:Sg,eU t1 t4 (vs1.getD 0 undef) (vs1.getD 1 undef) (vs1.getD 2 undef) w K)) (cx 163 #[t0,t1] w K fun t138 w=>dx (aT 9 t0 (some t1) (some t138) none) w K fun t143 w=>cx 167 #[t143] w K fun t144 w=>dx (mExt t144 0) w K fun t145 w=>dx (mExt t144 1) w K fun t146 w=>dx (aM 58) w K fun t15 w=>dx (aC 58 t15 t145) w K fun _ w=>dx (mEq .neq 30 (.tmp 147) (.const (iN 0)) t146 (iN 0)) w K fun t148 w=>IfX t148 (dx (aJ 58 #[]) w K fun t149 w=>dx (aC 58 t4 t149) w K fun _ w=>RetX prog [.cell t4 58,.val t146] w K) (dx (mFA 58 t15 1) w K fun t152 w=>dx (aC 3 t152 t1) w K fun _ w=>dx (mFA 58 t15 2) w K fun t154 w=>dx (aC 3 t154 t138) w K fun _ w=>dx (aA 58 t15) w K fun t155 w=>dx (aC 58 t4 t155) w K fun _ w=>RetX prog [.cell t4 58,.val (iN 0)] w K))))))
theorem wM (t0 t1:Value)(w:World)(K:Ending→World→Prop):wpX prog 156 [(19,[11,12,13])] [] none (aY Tryz.f112) (topQ prog [.cell 4 58,.tmp 5] K) (aR [t0,t1]) [] w=gW t0 t1 w K:=by kernel_rfl
theorem xC {t0 t1:Value}{w:World}{K:Ending→World→Prop}(h:gW t0 t1 w K):Calls prog 112 #[t0,t1] w K:=
 aE Tryz.func112 rfl rfl rfl rfl (Eq.mpr (wM t0 t1 w K) h)
def qK(t0 t1 w)(K:KT):=
 dx (aM 58) w K fun t4 w=>dx (mBin .lss 3 t1 (iN 0)) w K fun t8 w=>efx t8 t1 w fun t10 w=>efx t8 t0 w fun t11 w=>gfx t8 (mB .len #[9] 3 #[false] #[t11]) w K fun t12 w=>gfx t8 (mBin .gtr 3 t10 t12) w K fun t13 w=>dx (aF t8 (.bool true) t13) w K fun t14 w=>IfX t14 (dx (aJ 58 #[]) w K fun t15 w=>dx (aC 58 t4 t15) w K fun _ w=>RetX prog [.cell t4 58,.val (iN 1)] w K) (cx 111 #[t0,t1] w K fun t18 w=>dx (mB .len #[9] 3 #[false] #[t0]) w K fun t21 w=>dx (mBin .geq 3 t18 t21) w K fun t22 w=>IfX t22 (dx (mB .len #[9] 3 #[false] #[t0]) w K fun t24 w=>dx (mB .len #[9] 3 #[false] #[t0]) w K fun t26 w=>dx (aJ 58 #[(0,(iN 0)),(1,t24),(2,t26)]) w K fun t27 w=>dx (aC 58 t4 t27) w K fun _ w=>RetX prog [.cell t4 58,.val (iN 0)] w K) (cx 112 #[t0,t18] w K fun t30 w=>dx (mExt t30 0) w K fun t31 w=>dx (mExt t30 1) w K fun t32 w=>dx (aC 58 t4 t31) w K fun _ w=>RetX prog [.cell t4 58,.val t32] w K))
theorem zS{t0 t1 w K}(h:qK t0 t1 w K):Calls prog 67 #[t0,t1] w K:=cw Tryz.func67 rfl rfl (by kernel_rfl) h
def oT(t0 w)(K:KT):=
 dx (mBin .geq 5 t0 (.int .u8 48)) w K fun t4 w=>etx t4 t0 w fun t6 w=>gtx t4 (mBin .leq 5 t6 (.int .u8 57)) w K fun t7 w=>dx (aF t4 t7 (.bool false)) w K fun t8 w=>IfX t8 (dx (cH 5 3 t0) w K fun t10 w=>dx (mBin .sub 3 t10 (iN 48)) w K fun t11 w=>K (.returned t11) w) (dx (mBin .geq 5 t0 (.int .u8 65)) w K fun t13 w=>etx t13 t0 w fun t15 w=>gtx t13 (mBin .leq 5 t15 (.int .u8 70)) w K fun t16 w=>dx (aF t13 t16 (.bool false)) w K fun t17 w=>IfX t17 (dx (cH 5 3 t0) w K fun t19 w=>dx (mBin .sub 3 t19 (iN 65)) w K fun t20 w=>dx (mBin .add 3 t20 (iN 10)) w K fun t21 w=>K (.returned t21) w) (dx (mBin .geq 5 t0 (.int .u8 97)) w K fun t23 w=>etx t23 t0 w fun t25 w=>gtx t23 (mBin .leq 5 t25 (.int .u8 102)) w K fun t26 w=>dx (aF t23 t26 (.bool false)) w K fun t27 w=>IfX t27 (dx (cH 5 3 t0) w K fun t29 w=>dx (mBin .sub 3 t29 (iN 97)) w K fun t30 w=>dx (mBin .add 3 t30 (iN 10)) w K fun t31 w=>K (.returned t31) w) (K (.returned (iN (-1))) w)))
theorem wF{t0 w K}(h:oT t0 w K):Calls prog 214 #[t0] w K:=cw Tryz.func214 rfl rfl (by kernel_rfl) h
def lJ(t0 t4 t5 w)(N1:JT)(K:KT):=
 dx (mB .len #[9] 3 #[false] #[t0]) w K fun t14 w=>dx (mBin .lss 3 t5 t14) w K fun t15 w=>IfX t15 (QuietX w (fun C2=>QDo prog C2 (mIx 9 t0 t5) fun t20=>QCall prog C2 214 #[t20] fun t21=>QDo prog C2 (mBin .add 3 t5 (iN 1)) fun t24=>QDo prog C2 (mIx 9 t0 t24) fun t25=>QCall prog C2 214 #[t25] fun t26=>
 ∀w,C2 w →
 dx (mBin .lss 3 t21 (iN 0)) w K fun t28 w=>efx t28 t26 w fun t30 w=>gfx t28 (mBin .lss 3 t30 (iN 0)) w K fun t31 w=>dx (aF t28 (.bool true) t31) w K fun t32 w=>IfX t32 (K (.returned (.tuple #[(.string ⟨#[]⟩),(iN 3)])) w) (dx (mBin .mul 3 (iN 16) t21) w K fun t35 w=>dx (mBin .add 3 t35 t26) w K fun t37 w=>dx (cH 3 5 t37) w K fun t38 w=>dx (aS 76 1 #[(0,t38)]) w K fun t39 w=>dx (mB .append #[76,76] 76 #[false,false] #[t4,t39]) w K fun t40 w=>dx (mBin .add 3 t5 (iN 2)) w K fun t17 w=>N1 [t40,t17] w))) (dx (cH 76 9 t4) w K fun t42 w=>K (.returned (.tuple #[t42,(iN 0)])) w)
def gH(t0 w)(K:KT):=
 dx (mB .len #[9] 3 #[false] #[t0]) w K fun t9 w=>dx (mBin .rem 3 t9 (iN 2)) w K fun t10 w=>dx (mEq .neq 3 (.tmp 10) (.const (iN 0)) t10 (iN 0)) w K fun t11 w=>IfX t11 (K (.returned (.tuple #[(.string ⟨#[]⟩),(iN 3)])) w) (LoopX [(.slice none 0 0),(iN 0)] w (fun vs1 w N1=>∀_:Sg,lJ t0 (vs1.getD 0 undef) (vs1.getD 1 undef) w N1 K))
theorem yA (t0:Value)(w:World)(K:Ending→World→Prop):wpX prog 43 [] [(5,[4,5])] none (aY Tryz.f216) (topQ prog [.tmp 2,.tmp 3] K) (aR [t0]) [] w=gH t0 w K:=by kernel_rfl
theorem wC {t0:Value}{w:World}{K:Ending→World→Prop}(h:gH t0 w K):Calls prog 216 #[t0] w K:=
 aE Tryz.func216 rfl rfl rfl rfl (Eq.mpr (yA t0 w K) h)
def nL(t0 t1 t2 w)(K:KT):=
 dx (mBin .geq 3 t2 (iN 0)) w K fun t8 w=>etx t8 t2 w fun t10 w=>etx t8 t0 w fun t11 w=>gtx t8 (mB .len #[9] 3 #[false] #[t11]) w K fun t12 w=>gtx t8 (mBin .leq 3 t10 t12) w K fun t13 w=>dx (aF t8 t13 (.bool false)) w K fun t14 w=>etx t14 t1 w fun t16 w=>gtx t14 (mB .len #[9] 3 #[false] #[t16]) w K fun t17 w=>etx t14 t0 w fun t18 w=>gtx t14 (mB .len #[9] 3 #[false] #[t18]) w K fun t19 w=>etx t14 t2 w fun t20 w=>gtx t14 (mBin .sub 3 t19 t20) w K fun t21 w=>gtx t14 (mBin .leq 3 t17 t21) w K fun t22 w=>dx (aF t14 t22 (.bool false)) w K fun t23 w=>etx t23 t0 w fun t25 w=>etx t23 t2 w fun t26 w=>etx t23 t2 w fun t27 w=>etx t23 t1 w fun t28 w=>gtx t23 (mB .len #[9] 3 #[false] #[t28]) w K fun t29 w=>gtx t23 (mBin .add 3 t27 t29) w K fun t30 w=>gtx t23 (aT 9 t25 (some t26) (some t30) none) w K fun t31 w=>etx t23 t1 w fun t32 w=>gtx t23 (mEq .eql 9 (.tmp 31) (.tmp 32) t31 t32) w K fun t33 w=>dx (aF t23 t33 (.bool false)) w K fun t34 w=>K (.returned t34) w
theorem uJ{t0 t1 t2 w K}(h:nL t0 t1 t2 w K):Calls prog 213 #[t0,t1,t2] w K:=cw Tryz.func213 rfl rfl (by kernel_rfl) h
def nX(t0 t5 w)(N1:JT)(K:KT):=
 dx (mB .len #[9] 3 #[false] #[t0]) w K fun t18 w=>dx (mBin .lss 3 t5 t18) w K fun t19 w=>IfX t19 (cx 213 #[t0,(.string ⟨#[13,10]⟩),t5] w K fun t24 w=>IfX t24 (dx (mBin .add 3 t5 (iN 2)) w K fun t26 w=>K (.returned t26) w) (dx (mIx 9 t0 t5) w K fun t29 w=>dx (mEq .eql 5 (.tmp 29) (.const (.int .u8 13)) t29 (.int .u8 13)) w K fun t30 w=>efx t30 t0 w fun t32 w=>efx t30 t5 w fun t33 w=>gfx t30 (mIx 9 t32 t33) w K fun t34 w=>gfx t30 (mEq .eql 5 (.tmp 34) (.const (.int .u8 10)) t34 (.int .u8 10)) w K fun t35 w=>dx (aF t30 (.bool true) t35) w K fun t36 w=>IfX t36 (dx (mBin .add 3 t5 (iN 1)) w K fun t38 w=>K (.returned t38) w) (dx (mBin .add 3 t5 (iN 1)) w K fun t21 w=>N1 [t21] w))) (dx (mB .len #[9] 3 #[false] #[t0]) w K fun t40 w=>K (.returned t40) w)
def jE(t0 t1 w)(K:KT):=
 dx (mBin .lss 3 t1 (iN 0)) w K fun t7 w=>efx t7 t1 w fun t9 w=>efx t7 t0 w fun t10 w=>gfx t7 (mB .len #[9] 3 #[false] #[t10]) w K fun t11 w=>gfx t7 (mBin .gtr 3 t9 t11) w K fun t12 w=>dx (aF t7 (.bool true) t12) w K fun t13 w=>IfX t13 (K (.returned t1) w) (LoopX [t1] w (fun vs1 w N1=>∀_:Sg,nX t0 (vs1.getD 0 undef) w N1 K))
theorem yR (t0 t1:Value)(w:World)(K:Ending→World→Prop):wpX prog 41 [] [(4,[5])] none (aY Tryz.f161) (topQ prog [.tmp 4] K) (aR [t0,t1]) [] w=jE t0 t1 w K:=by kernel_rfl
theorem As {t0 t1:Value}{w:World}{K:Ending→World→Prop}(h:jE t0 t1 w K):Calls prog 161 #[t0,t1] w K:=
 aE Tryz.func161 rfl rfl rfl rfl (Eq.mpr (yR t0 t1 w K) h)
def mS(t0 t1 w)(N1:JT)(K:KT):=
 dx (mB .len #[9] 3 #[false] #[t0]) w K fun t16 w=>dx (mBin .lss 3 t1 t16) w K fun t17 w=>IfX t17 (dx (mIx 9 t0 t1) w K fun t20 w=>dx (mEq .eql 5 (.tmp 20) (.const (.int .u8 37)) t20 (.int .u8 37)) w K fun t21 w=>IfX t21 (cx 161 #[t0,t1] w K fun t24 w=>N1 [t24] w) (dx (mIx 9 t0 t1) w K fun t27 w=>cx 162 #[t27] w K fun t28 w=>IfX t28 (dx (mBin .add 3 t1 (iN 1)) w K fun t30 w=>N1 [t30] w) (K (.returned t1) w))) (K (.returned t1) w)
def jA(t0 t1 w)(K:KT):=
 dx (mBin .lss 3 t1 (iN 0)) w K fun t6 w=>efx t6 t1 w fun t8 w=>efx t6 t0 w fun t9 w=>gfx t6 (mB .len #[9] 3 #[false] #[t9]) w K fun t10 w=>gfx t6 (mBin .gtr 3 t8 t10) w K fun t11 w=>dx (aF t6 (.bool true) t11) w K fun t12 w=>IfX t12 (K (.returned t1) w) (LoopX [t1] w (fun vs1 w N1=>∀_:Sg,mS t0 (vs1.getD 0 undef) w N1 K))
theorem zQ (t0 t1:Value)(w:World)(K:Ending→World→Prop):wpX prog 33 [] [(3,[1])] none (aY Tryz.f111) (topQ prog [.tmp 4] K) (aR [t0,t1]) [] w=jA t0 t1 w K:=by kernel_rfl
theorem zH {t0 t1:Value}{w:World}{K:Ending→World→Prop}(h:jA t0 t1 w K):Calls prog 111 #[t0,t1] w K:=
 aE Tryz.func111 rfl rfl rfl rfl (Eq.mpr (zQ t0 t1 w K) h)
end
section
open Eng Go.RowKit
 attribute [local congr] kS in
theorem uS (c:UInt8)(w:World):Ret prog 214 #[.int .u8 c.toNat] w (fun v w'=>v=.int .i64 (Lx.digit c)∧w=w'):=by
  refine aO fun K hK=>wF ?_;unfold oT iN dx gtx etx;have h256:=c.toNat_lt;simp +contextual only[rs,gs];by_cases h1:48≤c.toNat∧c.toNat≤57
  ·have hb:(decide ((48:Int)≤(c.toNat:Int))&&decide ((c.toNat:Int)≤57))=true:=by simp;omega
   simp only[hb,i_t];rw[c_64 (by omega) (by omega),O6,aB (by omega) (by omega)];exact hK _ _ ⟨by rw[Lx.digit,Yh h1],rfl⟩
  have hb:(decide ((48:Int)≤(c.toNat:Int))&&decide ((c.toNat:Int)≤57))=false:=by
   rw[ZA,YK,YK];omega
  simp only[hb,i_f];by_cases h2:65≤c.toNat∧c.toNat≤70
  ·have hb:(decide ((65:Int)≤(c.toNat:Int))&&decide ((c.toNat:Int)≤70))=true:=by simp;omega
   simp only[hb,i_t];rw[c_64 (by omega) (by omega),O6,aB (by omega) (by omega),qD,aB (by omega) (by omega)];exact hK _ _ ⟨by rw[Lx.digit,Yg h1,Yh h2],rfl⟩
  have hb:(decide ((65:Int)≤(c.toNat:Int))&&decide ((c.toNat:Int)≤70))=false:=by
   rw[ZA,YK,YK];omega
  simp only[hb,i_f];by_cases h3:97≤c.toNat∧c.toNat≤102
  ·have hb:(decide ((97:Int)≤(c.toNat:Int))&&decide ((c.toNat:Int)≤102))=true:=by simp;omega
   simp only[hb,i_t];rw[c_64 (by omega) (by omega),O6,aB (by omega) (by omega),qD,aB (by omega) (by omega)];exact hK _ _ ⟨by rw[Lx.digit,Yg h1,Yg h2,Yh h3],rfl⟩
  have hb:(decide ((97:Int)≤(c.toNat:Int))&&decide ((c.toNat:Int)≤102))=false:=by
   rw[ZA,YK,YK];omega
  simp only[hb,i_f];exact hK _ _ ⟨by rw[Lx.digit,Yg h1,Yg h2,Yg h3],rfl⟩
 attribute [local congr] kS in
theorem Pt (s:List UInt8)(w:World)(hs:s.length≤1099511627776):Ret prog 216 #[.string ⟨s.toArray⟩] w (fun v w'=>v=.tuple #[.string ⟨(Lx.DQ s).1.toArray⟩,.int .i64 (Lx.DQ s).2]∧Below w.heap.size w w'):=by
  refine aO fun K hK=>wC ?_;unfold gH iN dx;rw[bF Ym,EC (by omega)];have hr:((s.length:Int).tmod 2)=((s.length % 2:Nat):Int):=by rw[Zl (by omega)];omega
  rw[hr];by_cases hodd:s.length % 2=1
  ·rw[hodd];have hu:¬((1:Nat):Int)=0:=by omega
   simp only[rs,hu,Yj,decide_not,Yi,YJ];exact hK _ _ ⟨by rw[rM (Iv _ s (Yw _) hodd)],(Own.start w).done⟩
  have heven:s.length % 2=0:=by omega
  rw[heven];simp only[rs,ne_eq,Int.natCast_zero,not_true,Yi];refine loop (fun vs w'=>∃(i:Nat) (v:Value) (acc:List UInt8),vs=[v,.int .i64 i]∧i≤s.length∧i % 2=0∧acc.length≤i∧Lx.unhex s=(Lx.unhex (s.drop i)).map (acc++·)∧Own w w' [BRow v acc])
   (fun vs _=>s.length - n1 vs) ⟨0,_,[],rfl,by omega,rfl,by simp,by simp,(Own.start w).uG _ 1⟩ ?_
  rintro vs w2 ⟨i,v,acc,rfl,hi,hi0,ha,he,ho⟩ _;simp only[lJ,gd,bF Ym,iN,dx,gfx,efx];rw[oL];by_cases hlt:(i:Int) < (s.length:Int)
  ·have hi2:i+1 < s.length:=by omega
   have hi3:i < s.length:=by omega
   simp only[hlt,Yj,i_t];have b1:=Lx.pP s[i];have b2:=Lx.pP s[i+1];have hw1:IntKind.wrap .i64 ((i:Int)+1)=((i+1:Nat):Int):=by rw[aB (by omega) (by omega)];omega
   have hc1:s[(i:Int).toNat]?=some s[i]:=by simp[hi3]
   have hc2:s[((i+1:Nat):Int).toNat]?=some s[i+1]:=by rw[Yo];simp[hi2]
   refine quiet (q_do _ (fun w=>gE (c:=s[i]) Ym (Zp i) hc1) ?_);refine gX (.int .i64 (Lx.digit s[i])) (fun w hb=>mF (uS s[i] w) hb) ?_;refine q_do (.int .i64 ((i+1:Nat):Int)) (fun w=>by rw[EX,hw1]) ?_;refine q_do _ (fun w=>gE (c:=s[i+1]) Ym (Zp _) hc2) ?_;refine gX (.int .i64 (Lx.digit s[i+1])) (fun w hb=>mF (uS s[i+1] w) hb) ?_;intro w3 hb3;have ho:=ho.grow hb3;rw[JG hi2] at he;simp +contextual only[rs,gs];by_cases hbad:Lx.digit s[i] < 0∨Lx.digit s[i+1] < 0
   ·have hb:(decide (Lx.digit s[i] < 0)||decide (Lx.digit s[i+1] < 0))=true:=by simpa using hbad
    simp only[hb,i_t];rw[Yh hbad] at he;exact hK _ _ ⟨by rw[rM he],ho.done⟩
   have hb:(decide (Lx.digit s[i] < 0)||decide (Lx.digit s[i+1] < 0))=false:=by simpa using hbad
   simp only[hb,i_f];rw[Yg hbad] at he;rw[aB (n:=16*Lx.digit s[i]) (by omega) (by omega),aB (by omega) (by omega),c_8,cZ (by omega) (by omega)];refine Dq (Lx.byte (Lx.digit s[i]) (Lx.digit s[i+1])) (B3 (by omega) (by omega) (by omega) (by omega)) ho (by omega) fun v' w4 ho=>?_;rw[aB (by omega) (by omega)];refine bO ⟨i+2,v',_,rfl,by omega,by omega,by simp;omega,?_,ho⟩ (by simp[n1,RowKit.intOf];omega);rw[he,YW]
   congr 1
   funext x;simp
  ·have hi2:i=s.length:=by omega
   subst hi2;simp only[hlt,Yi,i_f];rw[DO 0 ho rfl];rw[YX,Lx.unhex,Zv,YQ] at he;exact hK _ _ ⟨by rw[wT he],ho.done⟩
theorem Mz (p l:List UInt8):p.isPrefixOf l=(decide (p.length≤l.length)&&decide (l.take p.length=p)):=by
 rw[aaN,List.isPrefixOf_iff_prefix,List.prefix_iff_eq_take];simp only[Ys,Yx];constructor
 ·intro h;have:=congrArg List.length h;rw[YC] at this;exact⟨by omega,h.symm⟩
 ·intro h;exact h.2.symm
theorem Mm (s p:List UInt8)(k:Int)(w:World)(hs:s.length≤1099511627776):Ret prog 213 #[.string ⟨s.toArray⟩,.string ⟨p.toArray⟩,.int .i64 k] w (fun v w'=>v=.bool (bG s p k)∧w=w'):=by
 refine aO fun K hK=>uJ ?_;unfold nL iN dx gtx etx;by_cases h1:0≤k
 ·simp only[rs,h1,Yj,bF Ym];by_cases h2:k≤(s.length:Int)
  ·simp only[rs,h2,Yj,bF Ym];rw[aB (by omega) (by omega)];have hpt:=Mz p (s.drop k.toNat);rw[Yv] at hpt;by_cases h3:(p.length:Int)≤(s.length:Int) - k
   ·simp only[rs,h3,Yj,bF Ym];rw[aB (by omega) (by omega),Bt Ym h1 (by omega) (by omega),show (k+(p.length:Int)).toNat - k.toNat=p.length by omega];simp only[rs];rw[Yk (show p.length≤s.length - k.toNat by omega),Y2] at hpt;exact hK _ _ ⟨by simp only[bG,h1,h2,Yj,Y2,hpt],rfl⟩
   ·simp only[rs,h3,Yi,g_un];rw[Yl (show ¬p.length≤s.length - k.toNat by omega),Y8] at hpt;exact hK _ _ ⟨by simp only[bG,h1,h2,Yj,Y2,hpt],rfl⟩
  ·simp only[rs,h2,Yi,g_un];exact hK _ _ ⟨by simp[bG,h2],rfl⟩
 ·simp only[rs,h1,Yi,g_un];exact hK _ _ ⟨by simp[bG,h1],rfl⟩
theorem K6 (s:List UInt8)(k:Nat)(hk:k < s.length)(h:s[k]≠13):bG s [13,10] (k:Int)=false:=by
 unfold bG;rw[Yo,Lx.drop_cons hk];have:((13:UInt8)==s[k])=false:=by simpa using fun e:13=s[k]=>h e.symm
 simp[List.isPrefixOf,this]
theorem Se (s:List UInt8)(k:Nat)(w:World)(hk:k≤s.length)(hs:s.length≤1099511627776):Ret prog 161 #[.string ⟨s.toArray⟩,.int .i64 k] w (fun v w'=>v=.int .i64 (Lx.line s k)∧w=w'):=by
 refine aO fun K hK=>As ?_;unfold jE iN dx gfx efx;have h0:¬((k:Int) < 0):=by omega
 have h1:¬((s.length:Int) < (k:Int)):=by omega
 simp only[rs,h0,h1,Yi,bF Ym];refine loop (fun vs w'=>∃(i:Nat),vs=[.int .i64 i]∧i≤s.length∧Lx.line s i=Lx.line s k∧w=w') (fun vs _=>s.length - n0 vs) ⟨k,rfl,hk,rfl,rfl⟩ ?_;rintro vs w2 ⟨i,rfl,hi,he,rfl⟩ _;simp only[nX,gd,bF Ym,iN,dx,gfx,efx,cx];rw[oL];by_cases hlt:(i:Int) < (s.length:Int)
 ·have hi2:i < s.length:=by omega
  simp only[hlt,Yj,i_t];have hd:=Lx.drop_cons hi2;have e1:=u8d s[i] 13 13 rfl;have e2:=u8d s[i] 10 10 rfl;refine c_eq (Mm s [13,10] i w hs) ?_;by_cases g2:s[i]=13
  ·rw[GR s i hi2 g2];have g1:¬s[i]=10:=by rw[g2];decide
   by_cases g3:(s.drop (i+1)).head?=some 10
   ·simp only[Yk g3,i_t,rs];rw[aB (by omega) (by omega)];refine hK _ _ ⟨?_,rfl⟩;rw[←he,Lx.line,hd,Lx.dF,Yg g1,Yh g2,Yh g3];simp
   ·simp only[Yl g3,i_f,s_at hi2,rs,e1,Yk g2,g_un];rw[aB (by omega) (by omega)];refine hK _ _ ⟨?_,rfl⟩;rw[←he,Lx.line,hd,Lx.dF,Yg g1,Yh g2,Yg g3];simp
  rw[K6 s i hi2 g2];simp only[i_f,s_at hi2,rs,e1,Yl g2];by_cases g1:s[i]=10
  ·simp only[rs,s_at hi2,e2,Yk g1];rw[aB (by omega) (by omega)];refine hK _ _ ⟨?_,rfl⟩;rw[←he,Lx.line,hd,Lx.dF,Yh g1];simp
  simp only[rs,s_at hi2,e2,Yl g1];rw[aB (by omega) (by omega)];refine bO ⟨i+1,rfl,by omega,?_,rfl⟩ (by simp[n0,RowKit.intOf];omega);rw[←he];simp only[Lx.line];rw[hd,Lx.dF,Yg g1,Yg g2];omega
 ·have hi2:i=s.length:=by omega
  subst hi2;simp only[hlt,Yi,i_f];refine hK _ _ ⟨?_,rfl⟩;rw[←he,Lx.line,YX];simp[Lx.dF]
theorem Rl (s:List UInt8)(k:Int)(w:World)(hs:s.length≤1099511627776):Ret prog 111 #[.string ⟨s.toArray⟩,.int .i64 k] w (fun v w'=>v=.int .i64 (Lx.Ek s k)∧w=w'):=by
 refine aO fun K hK=>zH ?_;unfold jA iN dx gfx efx;by_cases h0:k < 0
 ·simp only[rs,h0,Yj,g_un];exact hK _ _ ⟨by rw[Lx.Ek,Yh (.inl h0)],rfl⟩
 simp only[rs,h0,Yi,bF Ym];by_cases h1:(s.length:Int) < k
 ·simp only[rs,h1,Yj];exact hK _ _ ⟨by rw[Lx.Ek,Yh (.inr h1)],rfl⟩
 simp only[rs,h1,Yi];have hsk:Lx.Ek s k=((Lx.skip s k.toNat:Nat):Int):=by rw[Lx.Ek,Yg (by omega)]
 refine loop (fun vs w'=>∃(i:Nat),vs=[.int .i64 i]∧i≤s.length∧Lx.skip s i=Lx.skip s k.toNat∧w=w') (fun vs _=>s.length - n0 vs) ⟨k.toNat,by rw[abQ (by omega)],by omega,rfl,rfl⟩ ?_;rintro vs w2 ⟨i,rfl,hi,he,rfl⟩ _;simp only[mS,gd,bF Ym,iN,dx,cx];rw[oL];by_cases hlt:(i:Int) < (s.length:Int)
 ·have hi2:i < s.length:=by omega
  have hd:=Lx.drop_cons hi2;simp only[hlt,Yj,i_t,s_at hi2];have e1:=u8d s[i] 37 37 rfl;have hL:=Lx.Ej (s.drop i);have hP:=Lx.Dn s[i] (s.drop (i+1));rw[←hd] at hP;rw[Yv] at hL;by_cases g1:s[i]=37
  ·simp only[rs,e1,Yk g1];refine c_eq (Se s i w (by omega) hs) ?_;refine bO ⟨Lx.line s i,rfl,by unfold Lx.line;omega,?_,rfl⟩ (by simp[n0,RowKit.intOf,Lx.line];omega);rw[←he];simp only[Lx.skip];have e2:Lx.dD false (s.drop i)=Lx.dF (s.drop i)+Lx.dD false ((s.drop i).drop (Lx.dF (s.drop i))):=by
    rw[hd,Lx.dD,Yh g1,Lx.Jk,Lx.dF,Yg (by rw[g1];decide),Yg (by rw[g1];decide),aaC 1 (Lx.dF _),Zx];omega
   rw[e2,Z6,Lx.line];omega
  simp only[rs,e1,Yl g1,s_at hi2];refine c_eq (E7 s[i] w) ?_;cases hw:Oc.rX s[i] with
 |true=>
   simp only[rs];rw[aB (by omega) (by omega)];refine bO ⟨i+1,rfl,by omega,?_,rfl⟩ (by simp[n0,RowKit.intOf];omega);rw[←he];simp only[Lx.skip];rw[hd,Lx.dD,Yg g1,Yh hw];omega
 |false=>
   simp only[rs];refine hK _ _ ⟨?_,rfl⟩;rw[hsk,←he,Lx.skip,hd,Lx.dD,Yg g1,Yg (by simp[hw])];simp
 ·have hi2:i=s.length:=by omega
  subst hi2;simp only[hlt,Yi,i_f];refine hK _ _ ⟨?_,rfl⟩;rw[hsk,←he,Lx.skip,YX];simp[Lx.dD]
end
end Go.Proofs.YtkejpieaafeblaaGreatDoor



namespace Go.Proofs.YtkejpieaafeblaaGreatDoor
section
open Eng Go.RowKit
theorem Od (s:List UInt8)(i:Nat)(w:World)(hs:s.length≤1099511627776)(h:i≤s.length):Ret prog 163 #[.string ⟨s.toArray⟩,.int .i64 i] w (fun v w'=>v=.int .i64 (Lx.run s i)∧w=w'):=by
 refine aO fun K hK=>BC ?_;unfold kF;refine loop (fun vs w'=>∃(j:Nat),vs=[.int .i64 j]∧j≤s.length∧Lx.run s j=Lx.run s i∧w=w') (fun vs _=>s.length - n0 vs) ⟨i,rfl,h,rfl,rfl⟩ ?_;rintro vs w2 ⟨j,rfl,hj,he,rfl⟩ _;simp only[pI,gd,bF Ym,iN,dx,gtx,ctx,etx];rw[oL];by_cases hlt:(j:Int) < (s.length:Int)
 ·have hi2:j < s.length:=by omega
  have hd:=Lx.drop_cons hi2;simp only[hlt,Yj,rs,s_at hi2];refine c_eq (BF s[j] w) ?_;cases hr:Oc.regular s[j] with
 |true=>
   simp only[rs];rw[aB (by omega) (by omega)];refine bO ⟨j+1,rfl,by omega,?_,rfl⟩ (by simp[n0,RowKit.intOf];omega);rw[←he,Lx.run,Lx.run,hd,Lx.runF,Yh hr];omega
 |false=>
   simp only[rs];refine hK _ _ ⟨?_,rfl⟩;rw[←he,Lx.run,hd,Lx.runF,Yg (by simp[hr])];simp
 ·have hi2:j=s.length:=by omega
  subst hi2;simp only[hlt,Yi,rs,g_un];refine hK _ _ ⟨?_,rfl⟩;rw[←he,Lx.run,YX];simp[Lx.runF]
theorem TA {s:List UInt8}{p:UInt8→Bool}{i:Nat}(h:i < s.length):(s.drop i).all p=(p s[i]&&(s.drop (i+1)).all p):=by
 rw[Lx.drop_cons h,Zo]
theorem Fm (s:List UInt8)(w:World)(hs:s.length≤1099511627776):Ret prog 218 #[.string ⟨s.toArray⟩] w (fun v w'=>v=.bool (Lx.dA s)∧w=w'):=by
 refine aO fun K hK=>tX ?_;unfold eX iN dx gtx gfx etx efx;refine join fun J hJ=>?_;have fin:J [.string ⟨(Lx.bH s).toArray⟩] w:=by
  refine hJ _ _ fun _=>?_;simp only[gd];have hu:(Lx.bH s).length≤s.length:=by
   cases s with
  |nil=>simp[Lx.bH]
  |cons c t=>simp only[Lx.bH];split<;>simp
  have hI:Lx.dA s=(!(Lx.bH s).isEmpty&&(Lx.bH s).all Lx.dig):=rfl;rw[hI] at hK;generalize Lx.bH s=u at *;unfold jJ iN;refine loop (fun vs w'=>∃(i:Nat),vs=[.int .i64 i]∧i≤u.length∧u.all Lx.dig=(u.drop i).all Lx.dig∧w=w') (fun vs _=>u.length - n0 vs) ⟨0,rfl,by omega,rfl,rfl⟩ ?_;rintro vs w2 ⟨i,rfl,hi,he,rfl⟩ _;simp only[jM,gd,bF Ym,iN,dx,gfx,efx];rw[oL];by_cases hlt:(i:Int) < (u.length:Int)
  ·have hi2:i < u.length:=by omega
   have hne:u.isEmpty=false:=by cases u with|nil=>simp at hi2|cons=>rfl
   simp only[hlt,Yj,i_t,s_at hi2];rw[TA hi2] at he;by_cases h1:(u[i].toNat:Int) < 48
   ·simp only[rs,h1,Yj,g_un];have hd:Lx.dig u[i]=false:=by simp[Lx.dig];omega
    exact hK _ _ ⟨by rw[he,hd,hne];rfl,rfl⟩
   ·by_cases h2:(57:Int) < (u[i].toNat:Int)
    ·simp only[rs,h1,Yi,s_at hi2,h2,Yj];have hd:Lx.dig u[i]=false:=by simp[Lx.dig];omega
     exact hK _ _ ⟨by rw[he,hd,hne];rfl,rfl⟩
    ·simp only[rs,h1,Yi,s_at hi2,h2];have hd:Lx.dig u[i]=true:=by simp[Lx.dig];omega
     rw[hd,Y2] at he;rw[aB (by omega) (by omega)];exact bO ⟨i+1,rfl,by omega,he,rfl⟩ (by simp[n0,RowKit.intOf];omega)
  ·have hi2:i=u.length:=by omega
   rw[show (⟨#[]⟩:ByteArray)=⟨([]:List UInt8).toArray⟩ from rfl];simp only[hlt,Yi,i_f,rs];rw[hi2,YX,List.all_nil] at he;refine hK _ _ ⟨?_,rfl⟩;rw[he,ZE];cases u with
  |nil=>rfl
  |cons=>rfl
 rw[show (⟨#[]⟩:ByteArray)=⟨([]:List UInt8).toArray⟩ from rfl];cases s with
|nil=>
  simp only[rs,ne_eq,not_true,Yi,g_un];exact fin
|cons c t=>
  have hx:∀{PK K},DoX prog (mIx 9 (.string ⟨(c::t).toArray⟩) (.int .i64 0)) w PK K=K (.int .u8 (c.toNat:Int)) w:=s_ix (c:=c) Ym (by omega) rfl;have e1:=u8d c 43 43 rfl;have e2:=u8d c 45 45 rfl;have hne:((c::t)≠([]:List UInt8)):=List.cons_ne_nil _ _;simp only[rs,Yk hne,hx,e1];by_cases h1:c=43
  ·simp only[rs,Yk h1,g_un];rw[CA Ym (by omega) (by simp;omega)];have:Lx.bH (c::t)=t:=by simp[Lx.bH,Lx.sgn,h1]
   rw[this] at fin;exact fin
  ·simp only[rs,Yl h1,hx,e2];by_cases h2:c=45
   ·simp only[rs,Yk h2];rw[CA Ym (by omega) (by simp;omega)];have:Lx.bH (c::t)=t:=by simp[Lx.bH,Lx.sgn,h2]
    rw[this] at fin;exact fin
   ·simp only[rs,Yl h2];have:Lx.bH (c::t)=c::t:=by simp[Lx.bH,Lx.sgn,h1,h2]
    rw[this] at fin;exact fin
theorem WL (l:List UInt8):∀n,n≤Lx.val n l:=by
 induction l with
|nil=>intro n;unfold Lx.val;exact Yw n
|cons c t ih=>
  intro n;have h:=ih (10*n+(c.toNat - 48));unfold Lx.val at h ⊢;rw[ZU];omega
theorem JM (s:List UInt8)(w:World)(hs:s.length≤1099511627776)(hf:Lx.dA s=true):Ret prog 219 #[.string ⟨s.toArray⟩] w (fun v w'=>v=pair (Lx.whole s)∧w=w'):=by
 refine aO fun K hK=>xH ?_;unfold gL iN;have hall:(Lx.bH s).all Lx.dig=true:=by
  rw[Lx.dA,Ys] at hf;exact hf.2
 obtain⟨c,t,rfl⟩:∃c t,s=c::t:=by
  cases s with
 |nil=>simp[Lx.dA,Lx.bH] at hf
 |cons c t=>exact⟨c,t,rfl⟩
 have hd1:∀x∈t,Lx.dig x=true:=by
  intro x hx;refine YI.1 hall x ?_;cases hc:Lx.sgn c with
 |true=>simpa[Lx.bH,hc] using hx
 |false=>simp[Lx.bH,hc,hx]
 have hd0:Lx.sgn c=false→Lx.dig c=true:=by
  intro hc;refine YI.1 hall c ?_;simp[Lx.bH,hc]
 have ns:∀x,Lx.dig x=true→Lx.sgn x=false:=by
  intro x hx;cases h:Lx.sgn x with
 |false=>rfl
 |true=>rw[CY x h] at hx;cases hx
 have hval:∀i,1≤i→i≤(c::t).length→∀hi:i < (c::t).length,Lx.dig (c::t)[i]=true:=by
  intro i h1 _ hi;obtain⟨j,rfl⟩:∃j,i=j+1:=⟨i - 1,by omega⟩;rw[aaO];exact hd1 _ (YH _)
 -- what stands behind i
 let rest (i:Nat):List UInt8:=if i=0 then Lx.bH (c::t) else (c::t).drop i
 refine loop (fun vs w'=>∃(i n:Nat),vs=[.int .i64 n,.int .i64 i]∧i≤(c::t).length∧n≤2147483647∧Lx.val 0 (Lx.bH (c::t))=Lx.val n (rest i)∧w=w') (fun vs _=>(c::t).length - n1 vs) ⟨0,0,rfl,by omega,by omega,rfl,rfl⟩ ?_;rintro vs w2 ⟨i,n,rfl,hi,hn,he,rfl⟩ _;simp only[lM,gd,bF Ym,iN,dx,gfx,efx];rw[oL];by_cases hlt:(i:Int) < ((c::t).length:Int)
 ·have hi2:i < (c::t).length:=by omega
  simp only[hlt,Yj,i_t];refine join fun J hJ=>?_;simp only[s_at hi2];have e1:=u8d (c::t)[i] 43 43 rfl;have e2:=u8d (c::t)[i] 45 45 rfl;have go:∀n':Nat,n'≤2147483647→Lx.val 0 (Lx.bH (c::t))=Lx.val n' ((c::t).drop (i+1))→J [.int .i64 n'] w:=by
   intro n' h1 h2;refine hJ _ _ fun _=>?_;simp only[lL,gd,rs,iN,dx];rw[aB (by omega) (by omega)];exact bO ⟨i+1,n',rfl,by omega,h1,h2,rfl⟩ (by simp[n1,RowKit.intOf] at hi2 ⊢;omega)
  have skip:Lx.sgn (c::t)[i]=true→J [.int .i64 n] w:=by
   intro h;rcases Zd i with rfl|h0
   ·refine go n hn ?_;rw[he];have hc:Lx.sgn c=true:=h;simp[rest,Lx.bH,hc]
   ·rw[ns _ (hval i h0 hi hi2)] at h;cases h
  by_cases h1:(c::t)[i]=43
  ·simp only[rs,e1,Yk h1,g_un];exact skip (by rw[h1];rfl)
  simp only[rs,e1,Yl h1,s_at hi2];by_cases h2:(c::t)[i]=45
  ·simp only[rs,e2,Yk h2];exact skip (by rw[h2];rfl)
  simp only[rs,e2,Yl h2,s_at hi2];have hsg:Lx.sgn (c::t)[i]=false:=by simp only[Lx.sgn,h1,h2,Yi,ZD]
  have hdg:Lx.dig (c::t)[i]=true:=by
   rcases Zd i with rfl|h0
   ·exact hd0 hsg
   ·exact hval i h0 hi hi2
  have hd2:48≤(c::t)[i].toNat∧(c::t)[i].toNat≤57:=by simpa[Lx.dig] using hdg
  have hrest:rest i=(c::t)[i]::(c::t).drop (i+1):=by
   rcases Zd i with rfl|h0
   ·have hc:Lx.sgn c=false:=hsg;simp[rest,Lx.bH,hc]
   ·simp only[rest,Yg (show ¬i=0 by omega)];exact Lx.drop_cons hi2
  have hstep:Lx.val n (rest i)=Lx.val (10*n+((c::t)[i].toNat - 48)) ((c::t).drop (i+1)):=by
   rw[hrest];unfold Lx.val;rw[ZU]
  rw[aB (n:=10*(n:Int)) (by omega) (by omega),F8 (show (Tryz.prog.underlying 5).isSome=true by kernel_rfl) Z5,aB (n:=((c::t)[i].toNat:Int)) (by omega) (by omega)];simp only[rs];rw[aB (n:=10*(n:Int)+((c::t)[i].toNat:Int)) (by omega) (by omega),aB (by omega) (by omega)];rw[show 10*(n:Int)+((c::t)[i].toNat:Int) - 48=((10*n+((c::t)[i].toNat - 48):Nat):Int) by omega];by_cases hbig:(2147483647:Int) < ((10*n+((c::t)[i].toNat - 48):Nat):Int)
  ·simp only[hbig,Yj,i_t];have hv:=WL ((c::t).drop (i+1)) (10*n+((c::t)[i].toNat - 48));exact hK _ _ ⟨by rw[Lx.whole,Yh (by rw[he,hstep];omega)],rfl⟩
  ·simp only[hbig,Yi,i_f];exact go _ (by omega) (by rw[he,hstep])
 ·have hi2:i=(c::t).length:=by omega
  simp only[hlt,Yi,i_f];have hr:rest i=[]:=by
   simp only[rest,Yg (show ¬i=0 by rw[hi2];simp)];rw[hi2,YX]
  rw[hr] at he;have he:Lx.val 0 (Lx.bH (c::t))=n:=he;refine join fun J hJ=>?_;rw[s_ix (c:=c) Ym (by omega) rfl];have e1:=u8d c 45 45 rfl;by_cases h45:c=45
  ·simp only[rs,e1,Yk h45];refine hJ _ _ fun _=>?_;simp only[fC,gd,iN];rw[aB (by omega) (by omega)];exact hK _ _ ⟨by rw[Lx.whole,Yg (by omega),Yh (by rw[h45];rfl),he],rfl⟩
  ·simp only[rs,e1,Yl h45];refine hJ _ _ fun _=>?_;simp only[fC,gd,iN];exact hK _ _ ⟨by rw[Lx.whole,Yg (by omega),Yg (by simpa using h45),he],rfl⟩
end
section
open Eng Go.RowKit
theorem OI (s:List UInt8)(w:World)(hs:s.length≤1099511627776):Ret prog 220 #[.string ⟨s.toArray⟩] w (fun v w'=>v=.bool (s.contains 46)∧w=w'):=by
 refine aO fun K hK=>vU ?_;unfold gN iN;refine loop (fun vs w'=>∃(i:Nat),vs=[.int .i64 i]∧i≤s.length∧s.contains 46=(s.drop i).contains 46∧w=w') (fun vs _=>s.length - n0 vs) ⟨0,rfl,by omega,rfl,rfl⟩ ?_;rintro vs w2 ⟨i,rfl,hi,he,rfl⟩ _;simp only[lD,gd,bF Ym,iN,dx];rw[oL];by_cases hlt:(i:Int) < (s.length:Int)
 ·have hi2:i < s.length:=by omega
  simp only[hlt,Yj,i_t,s_at hi2];rw[Lx.drop_cons hi2,List.contains_cons] at he;have e1:=u8d s[i] 46 46 rfl;by_cases h:s[i]=46
  ·simp only[rs,e1,Yk h];exact hK _ _ ⟨by rw[he,h];rfl,rfl⟩
  ·simp only[rs,e1,Yl h];have hb:((46:UInt8)==s[i])=false:=by simpa using fun e:46=s[i]=>h e.symm
   rw[hb,ZN] at he;rw[aB (by omega) (by omega)];exact bO ⟨i+1,rfl,by omega,he,rfl⟩ (by simp[n0,RowKit.intOf];omega)
 ·have hi2:i=s.length:=by omega
  simp only[hlt,Yi,i_f];rw[hi2,YX] at he;exact hK _ _ ⟨by rw[he];rfl,rfl⟩
def oI (t:List UInt8):Lx.Tok×Int:=
 if Lx.dA t then (⟨1,0,0,(Lx.whole t).1,[]⟩,(Lx.whole t).2)
 else if t.contains 46∧((Fx.read t).2=0∨(Fx.read t).2=2) then (⟨2,0,0,(Fx.read t).1,[]⟩,(Fx.read t).2)
 else if 127 < t.length then Lx.refused 5
 else (⟨5,0,0,0,t⟩,0)
theorem Mb (t:List UInt8)(a r:Int):Lx.rY t a r=if (oI t).2≠0 then Lx.refused (oI t).2 else ({ (oI t).1 with a:=a,t:=r },0):=by
 by_cases h1:Lx.dA t=true
 ·have hW:oI t=(⟨1,0,0,(Lx.whole t).1,[]⟩,(Lx.whole t).2):=by rw[oI,Yh h1]
  rw[hW,Lx.rY,Yh h1]
 by_cases h2:t.contains 46=true∧(Fx.read t).2=0
 ·have hW:oI t=(⟨2,0,0,(Fx.read t).1,[]⟩,0):=by rw[oI,Yg h1,Yh ⟨h2.1,.inl h2.2⟩,h2.2]
  rw[hW,Lx.rY,Yg h1,Yh h2];simp
 by_cases h3:t.contains 46=true∧(Fx.read t).2=2
 ·have hW:oI t=(⟨2,0,0,(Fx.read t).1,[]⟩,2):=by rw[oI,Yg h1,Yh ⟨h3.1,.inr h3.2⟩,h3.2]
  rw[hW,Lx.rY,Yg h1,Yg h2,Yh h3];simp
 have hn:¬(t.contains 46=true∧((Fx.read t).2=0∨(Fx.read t).2=2)):=by
  rintro⟨h,h'|h'⟩
  ·exact h2 ⟨h,h'⟩
  ·exact h3 ⟨h,h'⟩
 rw[Lx.rY,Yg h1,Yg h2,Yg h3,Lx.told];by_cases h4:127 < t.length
 ·have hW:oI t=Lx.refused 5:=by rw[oI,Yg h1,Yg hn,Yh h4]
  rw[hW,Yh (by omega)];simp[Lx.refused]
 ·have hW:oI t=(⟨5,0,0,0,t⟩,0):=by rw[oI,Yg h1,Yg hn,Yg h4]
  rw[hW,Yg (by omega)];simp
theorem QN {t:List UInt8}(h:508 < t.length):(Fx.read t).2=3:=by
 rw[Fx.read,Yg];simp[Fx.form];omega
section
variable {w:World}{PK:PKT}{K:VWP}
theorem MN {k n:Int}:DoX prog (aJ 58 #[(0,.int .i64 k),(3,.int .i64 n)]) w PK K=K (tokV ⟨k,0,0,n,[]⟩) w:=aU (by kernel_rfl)
theorem Vh {k:Int}{s:List UInt8}:DoX prog (aJ 58 #[(0,.int .i64 k),(4,.string ⟨s.toArray⟩)]) w PK K=K (tokV ⟨k,0,0,0,s⟩) w:=aU (by kernel_rfl)
theorem SC {k a t:Int}:DoX prog (aJ 58 #[(0,.int .i64 k),(1,.int .i64 a),(2,.int .i64 t)]) w PK K=K (tokV ⟨k,a,t,0,[]⟩) w:=aU (by kernel_rfl)
end
theorem Rk (s:List UInt8)(w:World)(hs:s.length≤1099511627776)(hl:508 < s.length):Ret prog 217 #[.string ⟨s.toArray⟩] w (fun v w'=>v=tokR (oI s)∧Below w.heap.size w w'):=by
 refine aO fun K hK=>yU ?_;unfold pW iN dx cx;refine gJ (Own.start w) fun b w1 ho=>?_;refine c_eq (Fm s w1 hs) ?_;by_cases hi:Lx.dA s=true
 ·simp only[hi,rs,YE];refine c_eq (JM s w1 hs hi) ?_;simp only[pair,ex,MN];exact cV 0 ho rfl fun w' ho=>hK _ _ ⟨by rw[oI,Yh hi],ho.done⟩
 ·have hi':Lx.dA s=false:=by simpa using hi
  simp only[hi',rs,YJ,Dj];refine cV 0 ho rfl fun w' ho=>hK _ _ ⟨?_,ho.done⟩;rw[oI,Yg hi,Yg (by rw[QN hl];rintro⟨_,h|h⟩<;>cases h),Yh (by omega)];rfl
 attribute [local congr] kS in
theorem Rh (s:List UInt8)(w:World)(hs:s.length≤1099511627776):Ret prog 167 #[.string ⟨s.toArray⟩] w (fun v w'=>v=tokR (oI s)∧Below w.heap.size w w'):=by
  refine aO fun K hK=>zO ?_;unfold iK iN dx gfx efx cx;refine gJ (Own.start w) fun b w1 ho=>?_;by_cases hl:(508:Int) < (s.length:Int)
  ·simp only[bF Ym,rs,hl,Yj];exact cF 0 ho rfl (Rk s w1 hs (by omega)) fun w' hb=>hK _ _ ⟨rfl,hb⟩
  simp only[bF Ym,rs,hl,Yi];refine c_eq (Fm s w1 hs) ?_;by_cases hi:Lx.dA s=true
  ·simp only[hi,i_t];refine c_eq (JM s w1 hs hi) ?_;simp only[pair,ex,MN];exact cV 0 ho rfl fun w' ho=>hK _ _ ⟨by rw[oI,Yh hi],ho.done⟩
  have hi':Lx.dA s=false:=by simpa using hi
  simp only[hi',i_f];refine join fun J hJ=>?_;have fin:∀w2 n,Own w w2 [tokE b Lx.none_]→¬(s.contains 46=true∧((Fx.read s).2=0∨(Fx.read s).2=2))→J [.int .i64 n] w2:=by
   intro w2 n ho hn;refine hJ _ _ fun _=>?_;simp only[nV,bF Ym,rs,iN,dx];by_cases h:(127:Int) < (s.length:Int)
   ·simp only[h,Yj,i_t,Dj];exact cV 0 ho rfl fun w' ho=>hK _ _ ⟨by rw[oI,Yg hi,Yg hn,Yh (by omega)];rfl,ho.done⟩
   ·simp only[h,Yi,i_f,Vh];exact cV 0 ho rfl fun w' ho=>hK _ _ ⟨by rw[oI,Yg hi,Yg hn,Yg (by omega)],ho.done⟩
  refine c_eq (OI s w1 hs) ?_;by_cases hp:s.contains 46=true
  ·simp only[hp,i_t];refine aP ho (Q9 s w1 (by omega)) ?_;rintro _ w2 rfl ho;simp only[pair,ex];by_cases h1:(Fx.read s).2=0∨(Fx.read s).2=2
   ·have hb:(decide ((Fx.read s).2=0)||decide ((Fx.read s).2=2))=true:=by simpa using h1
    simp +contextual only[rs,gs,hb,i_t,MN];exact cV 0 ho rfl fun w' ho=>hK _ _ ⟨by rw[oI,Yg hi,Yh ⟨hp,h1⟩],ho.done⟩
   ·have hb:(decide ((Fx.read s).2=0)||decide ((Fx.read s).2=2))=false:=by simpa using h1
    simp +contextual only[rs,gs,hb,i_f];exact fin _ _ ho fun h=>h1 h.2
  ·have hp':s.contains 46=false:=by simpa using hp
   simp only[hp',i_f];exact fin _ _ ho fun h=>hp h.1
def IG (t:List UInt8):List UInt8×Int:=match Lx.fA t with
|none=>([],3)
|some x=>if 127 < x.length then ([],5) else (x,0)
theorem PT {t:List UInt8}{i:Nat}(h:i < t.length)(h35:t[i]=35):Lx.fA (t.drop i)=if h2:i+2 < t.length then (if Lx.digit t[i+1] < 0∨Lx.digit t[i+2] < 0∨16*Lx.digit t[i+1]+Lx.digit t[i+2]=0 then none else (Lx.fA (t.drop (i+3))).map (Lx.byte (Lx.digit t[i+1]) (Lx.digit t[i+2])::·)) else none:=by
 rw[Lx.drop_cons h];by_cases h2:i+2 < t.length
 ·rw[dif_pos h2,Lx.drop_cons (show i+1 < t.length by omega),Lx.drop_cons (show i+1+1 < t.length by omega),Lx.fA,Yh h35]
 ·rw[dif_neg h2];cases hd:t.drop (i+1) with
 |nil=>simp[Lx.fA,h35]
 |cons x u=>
   cases u with
  |nil=>simp[Lx.fA,h35]
  |cons y u=>
    have:=congrArg List.length hd;simp at this;omega
 attribute [local congr] kS in
theorem Pz (t:List UInt8)(w:World)(hs:t.length≤1099511627776):Ret prog 164 #[.string ⟨t.toArray⟩] w (fun v w'=>v=.tuple #[.string ⟨(IG t).1.toArray⟩,.int .i64 (IG t).2]∧Below w.heap.size w w'):=by
  refine aO fun K hK=>zT ?_;unfold jF iN;refine loop (fun vs w'=>∃(i:Nat) (v:Value) (acc:List UInt8),vs=[v,.int .i64 i]∧i≤t.length∧acc.length≤i∧Lx.fA t=(Lx.fA (t.drop i)).map (acc++·)∧Own w w' [BRow v acc])
   (fun vs _=>t.length - n1 vs) ⟨0,_,[],rfl,by omega,by simp,by simp,(Own.start w).uG _ 1⟩ ?_
  rintro vs w4 ⟨i,v,acc,rfl,hi,hacc,he,ho⟩ _;simp only[nG,gd,bF Ym,iN,dx,gfx,efx];rw[oL];have bad:∀{w5},Own w w5 [BRow v acc]→Lx.fA (t.drop i)=none→K (.returned (.tuple #[.string ⟨#[]⟩,.int .i64 3])) w5:=by
   intro w5 ho hn;rw[hn] at he;exact hK _ _ ⟨by rw[IG,he];rfl,ho.done⟩
  by_cases hlt:(i:Int) < (t.length:Int)
  ·have hi3:i < t.length:=by omega
   simp only[hlt,Yj,i_t,s_at hi3];have e1:=u8d t[i] 35 35 rfl;refine join fun J hJ=>?_;have fin:∀(j:Nat) (c:UInt8) (n:Int) (w5:World),(c.toNat:Int)=n→i≤j→j < t.length→Lx.fA t=(Lx.fA (t.drop (j+1))).map (acc++c::·)→Own w w5 [BRow v acc]→J [.int .i64 j,.int .u8 n] w5:=by
    intro j c n w5 hc hij hjt he ho;refine hJ _ _ fun _=>?_;simp only[oD,gd,iN,dx];refine Dq c hc ho (by omega) fun v' w6 ho=>?_;rw[qD,aB (by omega) (by omega)];refine bO ⟨j+1,v',acc++[c],rfl,by omega,by simp;omega,?_,ho⟩ (by simp[n1,RowKit.intOf];omega);rw[he]
    congr 1
    funext x;simp
   by_cases h35:t[i]=35
   ·simp only[rs,e1,Yk h35,bF Ym];rw[aB (by omega) (by omega)];have hnf:=PT hi3 h35;by_cases hend:(t.length:Int)≤(i:Int)+2
    ·simp only[hend,Yj,i_t];rw[dif_neg (by omega)] at hnf;exact bad ho hnf
    ·simp only[hend,Yi,i_f];have hi6:i+2 < t.length:=by omega
     have hi5:i+1 < t.length:=by omega
     rw[dif_pos hi6] at hnf;have b1:=Lx.pP t[i+1];have b2:=Lx.pP t[i+2];have hw1:IntKind.wrap .i64 ((i:Int)+1)=((i+1:Nat):Int):=by rw[aB (by omega) (by omega)];omega
     have hw2:IntKind.wrap .i64 ((i:Int)+2)=((i+2:Nat):Int):=by rw[aB (by omega) (by omega)];omega
     have hc1:t[((i+1:Nat):Int).toNat]?=some t[i+1]:=by rw[Yo];simp[hi5]
     have hc2:t[((i+2:Nat):Int).toNat]?=some t[i+2]:=by rw[Yo];simp[hi6]
     refine quiet (q_do (.int .i64 ((i+1:Nat):Int)) (fun w=>by rw[EX,hw1]) ?_);refine q_do _ (fun w=>gE (c:=t[i+1]) Ym (Zp _) hc1) ?_;refine gX (.int .i64 (Lx.digit t[i+1])) (fun w hb=>mF (uS t[i+1] w) hb) ?_;refine q_do (.int .i64 ((i+2:Nat):Int)) (fun w=>by rw[EX,hw2]) ?_;refine q_do _ (fun w=>gE (c:=t[i+2]) Ym (Zp _) hc2) ?_;refine gX (.int .i64 (Lx.digit t[i+2])) (fun w hb=>mF (uS t[i+2] w) hb) ?_;intro w5 hb;have ho:=ho.grow hb;have hw3:IntKind.wrap .i64 (16*Lx.digit t[i+1])=16*Lx.digit t[i+1]:=aB (by omega) (by omega);have hw4:IntKind.wrap .i64 (16*Lx.digit t[i+1]+Lx.digit t[i+2])=16*Lx.digit t[i+1]+Lx.digit t[i+2]:=aB (by omega) (by omega);simp +contextual only[rs,gs,hw3,hw4];by_cases hbad:Lx.digit t[i+1] < 0∨Lx.digit t[i+2] < 0∨16*Lx.digit t[i+1]+Lx.digit t[i+2]=0
     ·have hb2:(decide (Lx.digit t[i+1] < 0)||decide (Lx.digit t[i+2] < 0)||decide (16*Lx.digit t[i+1]+Lx.digit t[i+2]=0))=true:=by
       simpa[or_assoc] using hbad
      simp only[hb2,i_t];rw[Yh hbad] at hnf;exact bad ho hnf
     ·have hb2:(decide (Lx.digit t[i+1] < 0)||decide (Lx.digit t[i+2] < 0)||decide (16*Lx.digit t[i+1]+Lx.digit t[i+2]=0))=false:=by
       rw[Bool.or_eq_false_iff,Bool.or_eq_false_iff];simp only[YK];exact⟨⟨fun h=>hbad (.inl h),fun h=>hbad (.inr (.inl h))⟩,fun h=>hbad (.inr (.inr h))⟩
      simp only[hb2,i_f];rw[Yg hbad] at hnf;have hb0:=B3 (a:=Lx.digit t[i+1]) (b:=Lx.digit t[i+2]) (by omega) (by omega) (by omega) (by omega);rw[c_8,cZ (by omega) (by omega)];refine fin (i+2) _ _ _ hb0 (by omega) (by omega) ?_ ho;rw[he,hnf,YW];rfl
   ·simp only[rs,e1,Yl h35];refine fin i t[i] _ _ rfl (by omega) hi3 ?_ ho;rw[he,Lx.drop_cons hi3,Lx.KU h35,YW];rfl
  ·have hi3:i=t.length:=by omega
   subst hi3;rw[YX,Lx.fA,Zv,YQ] at he;simp only[hlt,Yi,i_f,bY Y3 (ho.D5 0 rfl),rs];by_cases h127:(127:Int) < (acc.length:Int)
   ·simp only[h127,Yj,i_t];exact hK _ _ ⟨by rw[IG,he];simp only;rw[Yh (by omega)],ho.done⟩
   ·simp only[h127,Yi,i_f,DO 0 ho rfl];exact hK _ _ ⟨by rw[IG,he];simp only;rw[Yg (by omega)],ho.done⟩
end
section
open Eng Go.RowKit
theorem WE {S:Nat→Prop}{w0 w:World}{L:List Ent}{v:Value}{l m:List UInt8}{cs:Array Bool}{PK:PKT}{K:VWP}
  (ho:OwnS S w0 w (BRow v l::L)) (hb:l.length+m.length≤140737488355328) (k:∀v' w',OwnS S w0 w' (BRow v' (l++m)::L)→K v' w') :
  DoX prog (mB .append #[76,9] 76 cs #[v,.string ⟨m.toArray⟩]) w PK K:=by
 refine FR 0 Y3 Ym (show elB prog 5 1 1=true by kernel_rfl) YV (by kernel_rfl) ho rfl (by omega) fun v' w5 _ h5=>?_;refine k v' w5 ?_;have e:BRow v' (l++m)=.row 5 1 v' (l.length+m.length) (bZ l++bZ m):=by
  rw[BRow,jY,Yp]
 rw[e];exact h5
def escs:List UInt8:=[110,114,116,98,102]
def escB:List UInt8:=[10,13,9,8,12]
theorem SR:∀i:Fin 5,Lx.escL (escs[i.val]'(i.isLt))=some (escB[i.val]'(i.isLt)):=by decide
theorem Qc (c:UInt8)(h:∀j (hj:j < 5),escs[j]'hj≠c):Lx.escL c=none:=by
 have h0:(110:UInt8)≠c:=h 0 (by decide);have h1:(114:UInt8)≠c:=h 1 (by decide);have h2:(116:UInt8)≠c:=h 2 (by decide);have h3:(98:UInt8)≠c:=h 3 (by decide);have h4:(102:UInt8)≠c:=h 4 (by decide);have n:∀x:UInt8,x≠c→¬c=x:=fun x hx e=>hx e.symm;rw[Lx.escL,Yg (n _ h0),Yg (n _ h1),Yg (n _ h2),Yg (n _ h3),Yg (n _ h4)]
theorem Nh (s:List UInt8)(a:Nat)(w:World)(hs:s.length≤1099511627776)(h:a+1 < s.length):Ret prog 215 #[.string ⟨s.toArray⟩,.int .i64 a] w (fun v w'=>v=.tuple #[.string ⟨(Lx.escF (s.drop (a+1))).1.toArray⟩,.int .i64 ((a+1+(Lx.escF (s.drop (a+1))).2:Nat):Int)]∧Below w.heap.size w w'):=by
 refine aO fun K hK=>uY ?_;unfold fS iN dx;have hw:∀k:Nat,k≤100→IntKind.wrap .i64 ((a:Int)+(k:Int))=((a+k:Nat):Int):=fun k hk=>by rw[aB (by omega) (by omega)];omega
 have hw1:IntKind.wrap .i64 ((a:Int)+1)=((a+1:Nat):Int):=hw 1 (by omega);have hw2:IntKind.wrap .i64 ((a:Int)+2)=((a+2:Nat):Int):=hw 2 (by omega);have hw3:IntKind.wrap .i64 ((a:Int)+3)=((a+3:Nat):Int):=hw 3 (by omega);have hw4:IntKind.wrap .i64 ((a:Int)+4)=((a+4:Nat):Int):=hw 4 (by omega);simp only[rs,hw1,s_at h];have hd:=Lx.drop_cons h;generalize hc:s[a+1]=c at *;refine loop (fun vs w'=>∃(i:Nat),vs=[.int .i64 i]∧i≤5∧(∀j (hj:j < 5),j < i→escs[j]'hj≠c)∧w=w') (fun vs _=>5 - n0 vs) ⟨0,rfl,by omega,fun j _ hj=>absurd hj (by omega),rfl⟩ ?_;rintro vs w2 ⟨i,rfl,hi,hmiss,rfl⟩ _;simp only[kI,gd,iN,dx,gtx,gfx,etx,efx];rw[show (⟨#[110,114,116,98,102]⟩:ByteArray)=⟨escs.toArray⟩ from rfl,show (⟨#[10,13,9,8,12]⟩:ByteArray)=⟨escB.toArray⟩ from rfl,bF Ym,oL,show ((escs.length:Nat):Int)=5 from rfl];by_cases hlt:(i:Int) < 5
 ·have hi2:i < 5:=by omega
  have hi3:i < escs.length:=hi2;simp only[hlt,Yj,i_t,s_at hi3];rw[Ri,show decide ((c.toNat:Int)=(escs[i].toNat:Int))=decide (c=escs[i]) from u8d c _ _ rfl];by_cases he:c=escs[i]
  ·simp only[Yk he,i_t,rs,hw2];rw[aB (by omega) (by omega),JV (s:=escB) (i:=i) (j:=i+1) rfl (by simp) (by omega) (by show i+1≤5;omega),H9 (s:=escB) (i:=i) hi2];have hh:Lx.escL c=some (escB[i]'hi2):=by rw[he];exact SR ⟨i,hi2⟩
   refine hK _ _ ⟨?_,(Own.start w).done⟩;rw[hd,Lx.escF,hh];rfl
  ·simp only[Yl he,i_f,rs];rw[aB (by omega) (by omega)];refine bO ⟨i+1,rfl,by omega,?_,rfl⟩ (by simp[n0,RowKit.intOf];omega);intro j hj hji e;rcases YS j i with h1|h1
   ·exact hmiss j hj h1 e
   ·have:j=i:=by omega
    subst this;exact he e.symm
 ·have hi2:i=5:=by omega
  have hl:Lx.escL c=none:=Qc c fun j hj=>hmiss j hj (by omega);simp only[hlt,Yi,i_f];have e1:=u8d c 13 13 rfl;have e2:=u8d c 10 10 rfl;have hEol:∀n,Lx.eol c=true→Lx.dF (c::s.drop (a+1+1))=n→Lx.escF (s.drop (a+1))=([],n):=by
   intro n h1 h2;rw[hd,Lx.escF,hl];simp only[h1,if_true,h2]
  by_cases g1:c=13
  ·have g10:¬c=10:=by rw[g1];decide
   have one:(¬(s.drop (a+1+1)).head?=some 10)→K (.returned (.tuple #[.string ⟨#[]⟩,.int .i64 ((a+2:Nat):Int)])) w:=by
    intro hh;refine hK _ _ ⟨?_,(Own.start w).done⟩;rw[hEol 1 (by simp[Lx.eol,g1]) (by rw[Lx.dF,Yg g10,Yh g1,Yg hh])];rfl
   by_cases g2:((a+2:Nat):Int) < (s.length:Int)
   ·have ha2:a+2 < s.length:=by omega
    have hd2:=Lx.drop_cons ha2;simp only[rs,e1,Yk g1,hw2,bF Ym,g2,Yj,s_at ha2];have e3:=u8d s[a+2] 10 10 rfl;by_cases g3:s[a+2]=10
    ·simp only[rs,e3,Yk g3,hw3];refine hK _ _ ⟨?_,(Own.start w).done⟩;rw[hEol 2 (by simp[Lx.eol,g1]) (by rw[Lx.dF,Yg g10,Yh g1,Yh (by rw[show a+1+1=a+2 from rfl,hd2,aaR,g3])])];rfl
    ·simp only[rs,e3,Yl g3,g_un,e1,Yk g1,hw2];exact one (by rw[show a+1+1=a+2 from rfl,hd2,aaR];simpa using g3)
   ·simp only[rs,e1,Yk g1,hw2,bF Ym,g2,Yi,g_un];exact one (by rw[YP (by omega)];simp)
  simp only[rs,e1,Yl g1,g_un];by_cases g2:c=10
  ·simp only[rs,e2,Yk g2,hw2];refine hK _ _ ⟨?_,(Own.start w).done⟩;rw[hEol 1 (by simp[Lx.eol,g2]) (by rw[Lx.dF,Yh g2])];rfl
  simp only[rs,e2,Yl g2,hw1];have hE:Lx.escF (s.drop (a+1))=if 0 < (Lx.octF 3 0 (s.drop (a+1))).2 then ([UInt8.ofNat (Lx.octF 3 0 (s.drop (a+1))).1],(Lx.octF 3 0 (s.drop (a+1))).2) else ([c],1):=by
   rw[hd,Lx.escF,hl];simp only[Lx.eol,g1,g2,Yi,ZD,ZJ,if_false]
  refine loop (fun vs w'=>∃(j n:Nat),vs=[.int .i64 n,.int .i64 j]∧a+1≤j∧j≤a+4∧j≤s.length∧n < 8 ^ (j - (a+1))∧Lx.octF 3 0 (s.drop (a+1))=((Lx.octF (3 - (j - (a+1))) n (s.drop j)).1,(Lx.octF (3 - (j - (a+1))) n (s.drop j)).2+(j - (a+1)))∧w=w')
   (fun vs _=>a+4 - n1 vs) ⟨a+1,0,rfl,by omega,by omega,by omega,by simp,by simp,rfl⟩ ?_
  rintro vs w3 ⟨j,n,rfl,hj1,hj2,hj3,hn,ho8,rfl⟩ _;simp only[jZ,gd,bF Ym,iN,dx,gtx,etx];have hn2:n < 512:=Y4 hn (Nat.pow_le_pow_right (by decide) (by omega:j - (a+1)≤3));have stop:Lx.octF (3 - (j - (a+1))) n (s.drop j)=(n,0)→DoX prog (mBin .add 3 (.int .i64 a) (.int .i64 1)) w (pk K) fun t96 w=>
    DoX prog (mBin .gtr 3 (.int .i64 j) t96) w (pk K) fun t97 w=>
    IfX t97 (DoX prog (mBin .rem 3 (.int .i64 n) (.int .i64 256)) w (pk K) fun t99 w=>
    DoX prog (cH 3 5 t99) w (pk K) fun t100 w=>
    DoX prog (aS 76 1 #[(0,t100)]) w (pk K) fun t101 w=>
    DoX prog (cH 76 9 t101) w (pk K) fun t102 w=>
    K (.returned (.tuple #[t102,.int .i64 j])) w) (DoX prog (mBin .add 3 (.int .i64 a) (.int .i64 1)) w (pk K) fun t106 w=>
    DoX prog (mBin .add 3 (.int .i64 a) (.int .i64 2)) w (pk K) fun t108 w=>
    DoX prog (aT 9 (.string ⟨s.toArray⟩) (some t106) (some t108) none) w (pk K) fun t109 w=>
    DoX prog (mBin .add 3 (.int .i64 a) (.int .i64 2)) w (pk K) fun t111 w=>
    K (.returned (.tuple #[t109,t111])) w):=by
   intro h0;rw[h0] at ho8;simp only[rs,hw1,hw2];by_cases hij:((a+1:Nat):Int) < (j:Int)
   ·simp only[hij,Yj,i_t];rw[EC (by omega),c_8,Hx,Zl (by omega)];refine Uz (UInt8.ofNat n) (by rw[aaJ];omega) (Own.start w) fun w' ho=>?_;refine hK _ _ ⟨?_,ho.done⟩;rw[hE,ho8,Yh (by simp;omega)];simp only;rw[show a+1+(0+(j - (a+1)))=j by omega]
   ·simp only[hij,Yi,i_f];rw[JV (i:=a+1) (j:=a+2) rfl rfl (by omega) (by omega),show Lx.cut s (a+1) (a+2)=[s[a+1]] from H9 h,hc];refine hK _ _ ⟨?_,(Own.start w).done⟩;rw[hE,ho8,Yg (by simp;omega)];rfl
  by_cases hlt:(j:Int) < (s.length:Int)
  ·have hj4:j < s.length:=by omega
   have hdj:=Lx.drop_cons hj4;by_cases hj5:(j:Int) < ((a+4:Nat):Int)
   ·obtain⟨m,hm⟩:∃m,3 - (j - (a+1))=m+1:=⟨3 - (j - (a+1)) - 1,by omega⟩;rw[hm,hdj,Lx.octF] at ho8;by_cases h48:(48:Int)≤(s[j].toNat:Int)
    ·by_cases h55:(s[j].toNat:Int)≤55
     ·have hoct:Lx.oct s[j]=true:=by simp[Lx.oct];omega
      simp only[hlt,Yj,rs,hw4,hj5,s_at hj4,h48,h55];rw[c_64 (by omega) (by omega)];simp only[rs];rw[aB (n:=8*(n:Int)) (by omega) (by omega),aB (n:=8*(n:Int)+(s[j].toNat:Int)) (by omega) (by omega),aB (by omega) (by omega),aB (by omega) (by omega)];rw[Yh hoct] at ho8;refine bO ⟨j+1,8*n+(s[j].toNat - 48),by simp;omega,by omega,by omega,by omega,?_,?_,rfl⟩ (by simp[n1,RowKit.intOf];omega)
      ·rw[show j+1 - (a+1)=(j - (a+1))+1 by omega,Nat.pow_succ];omega
      ·rw[ho8,show 3 - (j+1 - (a+1))=m by omega];refine Zq rfl ?_;simp only;omega
     ·have hst:=stop (by rw[hm,hdj,Lx.octF,Yg];simp[Lx.oct];omega);simp only[rs,hlt,Yj,hw4,hj5,s_at hj4,h48,h55,Yi,g_un] at hst ⊢;exact hst
    ·have hst:=stop (by rw[hm,hdj,Lx.octF,Yg];simp[Lx.oct];omega);simp only[rs,hlt,Yj,hw4,hj5,s_at hj4,h48,Yi,g_un] at hst ⊢;exact hst
   ·have hst:=stop (by rw[show 3 - (j - (a+1))=0 by omega,Lx.octF]);simp only[rs,hlt,Yj,hw4,hj5,Yi,g_un] at hst ⊢;exact hst
  ·have hst:=stop (by rw[show j=s.length by omega,YX];cases 3 - (s.length - (a+1))<;>rfl);simp only[rs,hlt,Yi,g_un] at hst ⊢;exact hst
end
section
open Eng Go.RowKit
def strR (s:List UInt8)(at_:Nat)(r:(List UInt8×Nat) ⊕ Int):Value:=
 match r with
|.inr e=>.tuple #[.string ⟨#[]⟩,.int .i64 0,.int .i64 e]
|.inl r=>if 32767 < r.1.length then .tuple #[.string ⟨#[]⟩,.int .i64 0,.int .i64 5] else .tuple #[.string ⟨r.1.toArray⟩,.int .i64 ((at_+r.2:Nat):Int),.int .i64 0]
def GX (s:List UInt8)(at_:Nat):(List UInt8×Nat) ⊕ Int:=match Lx.cE 0 1 (s.drop at_) with|none=>.inr 4|some r=>.inl r
theorem Oe (s:List UInt8)(a:Nat)(w:World)(hs:s.length≤1099511627776)(ha:a≤s.length):Ret prog 165 #[.string ⟨s.toArray⟩,.int .i64 a] w (fun v w'=>v=strR s a (GX s a)∧Below w.heap.size w w'):=by
 refine aO fun K hK=>Ar ?_;unfold jC iN;refine loop (fun vs w'=>∃(i o:Nat) (v:Value) (acc:List UInt8),vs=[.int .i64 i,v,.int .i64 o]∧a≤i∧i≤s.length∧1≤o∧o≤i+1∧acc.length≤i∧Lx.cE 0 1 (s.drop a)=(Lx.cE 0 o (s.drop i)).map (fun r=>(acc++r.1,r.2+(i - a)))∧Own w w' [BRow v acc])
  (fun vs _=>s.length - n0 vs) ⟨a,1,_,[],rfl,by omega,ha,by omega,by omega,by simp,by simp,(Own.start w).uG _ 1⟩ ?_
 rintro vs w4 ⟨i,o,v,acc,rfl,hi1,hi2,ho1,ho2,hacc,he,ho⟩ _;simp only[mR,gd,bF Ym,iN,dx,cx];rw[oL];have bad:∀{w5},Own w w5 [BRow v acc]→Lx.cE 0 o (s.drop i)=none→K (.returned (.tuple #[.string ⟨#[]⟩,.int .i64 0,.int .i64 4])) w5:=by
  intro w5 ho hn;rw[hn,abR] at he;exact hK _ _ ⟨by rw[GX,he];rfl,ho.done⟩
 by_cases hlt:(i:Int) < (s.length:Int)
 ·have hi3:i < s.length:=by omega
  have hd:=Lx.drop_cons hi3;have hw1:IntKind.wrap .i64 ((i:Int)+1)=((i+1:Nat):Int):=by rw[aB (by omega) (by omega)];omega
  simp only[hlt,Yj,i_t,s_at hi3];have e1:=u8d s[i] 92 92 rfl;have e2:=u8d s[i] 40 40 rfl;have e3:=u8d s[i] 41 41 rfl;have e4:=u8d s[i] 13 13 rfl;by_cases g1:s[i]=92
  ·have hne:¬(Lx.eol s[i]=true):=by rw[g1];decide
   simp only[rs,e1,Yk g1,hw1,bF Ym];by_cases hend:(s.length:Int)≤((i+1:Nat):Int)
   ·simp only[hend,Yj,i_t];refine bad ho ?_;rw[hd,Lx.cE,Yg hne,Yh g1,Yh (YP (by omega))]
   ·have hi4:i+1 < s.length:=by omega
    simp only[hend,Yi,i_f];have hel:=Lx.MP (s.drop (i+1));rw[Yv] at hel;refine aP ho (Nh s i w4 hs hi4) ?_;rintro _ w6 rfl ho;rw[x_0,x_1];have hxl:(Lx.escF (s.drop (i+1))).1.length≤1:=by
     rw[Lx.drop_cons hi4,Lx.escF];split
     ·simp
     ·split
      ·simp
      ·split<;>simp
    refine WE ho (by omega) fun v' w7 ho=>?_;refine bO ⟨i+1+(Lx.escF (s.drop (i+1))).2,o,v',acc++(Lx.escF (s.drop (i+1))).1,rfl,by omega,by omega,ho1,by omega,by simp;omega,?_,ho⟩ (by simp[n0,RowKit.intOf];omega);rw[he,LN hi4 g1,YW]
    congr 1
    funext r
    refine Zq (by simp) ?_;simp only[Function.comp];omega
  simp only[rs,e1,Yl g1];refine join fun J2 hJ2=>?_;have fin:∀o':Nat,(s[i]=40→o'=o+1)→(s[i]≠40→o'=o)→J2 [.int .i64 o'] w4:=by
   intro o' h40 hn40;refine hJ2 _ _ fun _=>?_;simp only[nY,gd,iN,dx];refine join fun J3 hJ3=>?_;have fin3:∀o':Nat,1≤o'→o'≤i+2→(Lx.eol s[i]=true→o'=o)→(Lx.eol s[i]=false→Lx.cE 0 1 (s.drop a)=(Lx.cE 0 o' (s.drop (i+1))).map (fun r=>(acc++s[i]::r.1,r.2+1+(i - a))))→J3 [.int .i64 o'] w4:=by
    intro o' h1 h2 heol hgen;refine hJ3 _ _ fun _=>?_;simp only[mY,gd,iN,dx,gtx,etx];refine join fun J4 hJ4=>?_;have fin4:∀(k:Nat) (c:UInt8),i≤k→k < s.length→(c=if s[i]=13 then 10 else s[i])→Lx.cE 0 1 (s.drop a)=(Lx.cE 0 o' (s.drop (k+1))).map (fun r=>(acc++c::r.1,r.2+(k+1 - a)))→J4 [.int .i64 k] w4:=by
     intro k c hk1 hk2 hc hT;refine hJ4 _ _ fun _=>?_;simp only[nJ,gd,dx];refine join fun J5 hJ5=>?_;have fin5:∀n:Int,(c.toNat:Int)=n→J5 [.int .u8 n] w4:=by
      intro n hn;refine hJ5 _ _ fun _=>?_;simp only[nP,gd,iN,dx];refine Dq c hn ho (by omega) fun v' w6 ho=>?_;rw[qD,aB (by omega) (by omega)];refine bO ⟨k+1,o',v',acc++[c],rfl,by omega,by omega,h1,by omega,by simp;omega,?_,ho⟩ (by simp[n0,RowKit.intOf];omega);rw[hT]
      congr 1
      funext r
      refine Zq (by simp) rfl
     by_cases g:s[i]=13
     ·simp only[rs,e4,Yk g];exact fin5 10 (by rw[hc,Yh g];rfl)
     ·simp only[rs,e4,Yl g];exact fin5 _ (by rw[hc,Yg g])
    have one:(Lx.eol s[i]=true→Lx.dF (s.drop i)=1)→J4 [.int .i64 i] w4:=by
     intro hl;cases hE:Lx.eol s[i] with
    |false=>
      have hn13:¬s[i]=13:=by intro e;rw[e] at hE;cases hE
      refine fin4 i s[i] (Yw _) hi3 (by rw[Yg hn13]) ?_;rw[hgen hE]
      congr 1
      funext r
      refine Zq rfl ?_;simp only;omega
    |true=>
      have h10:(10:UInt8)=if s[i]=13 then 10 else s[i]:=by
       simp only[Lx.eol,ZB,Yx] at hE;rcases hE with h|h
       ·rw[Yh h]
       ·rw[Yg (by rw[h];decide),h]
      refine fin4 i 10 (Yw _) hi3 h10 ?_;rw[he,heol hE,HI hi3 hE,Lx.line,hl hE,YW]
      congr 1
      funext r
      refine Zq rfl ?_;simp only[Function.comp];omega
    by_cases g:s[i]=13
    ·have g10:¬s[i]=10:=by rw[g];decide
     by_cases h3:((i+1:Nat):Int) < (s.length:Int)
     ·have hi4:i+1 < s.length:=by omega
      simp only[rs,e4,Yk g,hw1,bF Ym,h3,Yj,s_at hi4];have e5:=u8d s[i+1] 10 10 rfl;have hh:(s.drop (i+1)).head?=some s[i+1]:=by rw[Lx.drop_cons hi4,aaR]
      by_cases h5:s[i+1]=10
      ·simp only[rs,e5,Yk h5,hw1];have hE:Lx.eol s[i]=true:=by simp[Lx.eol,g]
       refine fin4 (i+1) 10 (by omega) hi4 (by rw[Yh g]) ?_;have hL:Lx.dF (s.drop i)=2:=by rw[hd,Lx.dF,Yg g10,Yh g,Yh (by rw[hh,h5])]
       rw[he,heol hE,HI hi3 hE,Lx.line,hL,YW]
       congr 1
       funext r
       refine Zq rfl ?_;simp only[Function.comp];omega
      ·simp only[rs,e5,Yl h5];refine one fun _=>?_;rw[hd,Lx.dF,Yg g10,Yh g,Yg (by rw[hh];simpa using h5)]
     ·simp only[rs,e4,Yk g,hw1,bF Ym,h3,Yi,g_un];refine one fun _=>?_;rw[hd,Lx.dF,Yg g10,Yh g,Yg (by rw[YP (by omega)];simp)]
    ·simp only[rs,e4,Yl g,g_un];refine one fun hE=>?_;have:s[i]=10:=by simpa[Lx.eol,g] using hE
     rw[hd,Lx.dF,Yh this]
   have step:Lx.eol s[i]=false→Lx.cE 0 o (s.drop i)=if s[i]=40 then (Lx.cE 0 (o+1) (s.drop (i+1))).map (fun r=>(s[i]::r.1,r.2+1))
     else if s[i]=41 then if o≤1 then some ([],1) else (Lx.cE 0 (o - 1) (s.drop (i+1))).map (fun r=>(s[i]::r.1,r.2+1))
     else (Lx.cE 0 o (s.drop (i+1))).map (fun r=>(s[i]::r.1,r.2+1)):=by
    intro hE;rw[hd,Lx.cE,Yg (by rw[hE];decide),Yg g1]
   by_cases g3:s[i]=41
   ·have hE:Lx.eol s[i]=false:=by rw[g3];rfl
    have g40:s[i]≠40:=by rw[g3];decide
    have hst:=step hE;rw[Yg g40,Yh g3] at hst;simp only[rs,e3,Yk g3];rw[hn40 g40,aB (by omega) (by omega)];by_cases g4:o≤1
    ·have g5:(o:Int) - 1=0:=by omega
     rw[Yh g4] at hst;simp only[g5,Yj,i_t,bY Y3 (ho.D5 0 rfl),rs];rw[hst,Zv,YQ] at he;by_cases hbig:(32767:Int) < (acc.length:Int)
     ·simp only[hbig,Yj,i_t];exact hK _ _ ⟨by rw[GX,he];simp only[strR];rw[Yh (by omega)],ho.done⟩
     ·simp only[hbig,Yi,i_f,DO 0 ho rfl,hw1];exact hK _ _ ⟨by rw[GX,he];simp only[strR];rw[Yg (by omega),show a+(1+(i - a))=i+1 by omega],ho.done⟩
    ·have g5:¬((o:Int) - 1=0):=by omega
     rw[Yg g4] at hst;simp only[g5,Yi,i_f];rw[show (o:Int) - 1=((o - 1:Nat):Int) by omega];refine fin3 (o - 1) (by omega) (by omega) (fun h=>by rw[hE] at h;cases h) fun _=>?_;rw[he,hst,YW];rfl
   ·simp only[rs,e3,Yl g3];by_cases g2:s[i]=40
    ·have hE:Lx.eol s[i]=false:=by rw[g2];rfl
     refine fin3 o' (by have:=h40 g2;omega) (by have:=h40 g2;omega) (fun h=>by rw[hE] at h;cases h) fun _=>?_;rw[he,step hE,Yh g2,h40 g2,YW];rfl
    ·refine fin3 o' (by have:=hn40 g2;omega) (by have:=hn40 g2;omega) (fun _=>hn40 g2) fun hE=>?_;rw[he,step hE,Yg g2,Yg g3,hn40 g2,YW];rfl
  by_cases g2:s[i]=40
  ·simp only[rs,e2,Yk g2];rw[aB (by omega) (by omega),show (o:Int)+1=((o+1:Nat):Int) by omega];exact fin (o+1) (fun _=>rfl) (fun h=>absurd g2 h)
  ·simp only[rs,e2,Yl g2];exact fin o (fun h=>absurd h g2) (fun _=>rfl)
 ·have hi3:i=s.length:=by omega
  simp only[hlt,Yi,i_f];refine bad ho ?_;rw[hi3,YX];rfl
end
section
open Eng Go.RowKit
def digF:List UInt8→(List UInt8×Nat) ⊕ Int
|[]=>.inr 4
|c::t=>
  if c=62 then .inl ([],1)
  else if 0≤Lx.digit c then match digF t with|.inl r=>.inl (c::r.1,r.2+1)|.inr e=>.inr e
  else if Oc.rX c then match digF t with|.inl r=>.inl (r.1,r.2+1)|.inr e=>.inr e
  else .inr 3
def OS:List UInt8→List UInt8
|[]=>[]
|[a]=>[Lx.byte (Lx.digit a) 0]
|a::b::t=>Lx.byte (Lx.digit a) (Lx.digit b)::OS t
def padH (l:List UInt8):List UInt8:=if l.length % 2=0 then l else l++[48]
theorem Ml (c:UInt8)(h:Oc.rX c=true):Lx.digit c < 0:=by
 have:∀n:Fin 256,Oc.rX (UInt8.ofNat n.val)=true→Lx.digit (UInt8.ofNat n.val) < 0:=by decide +kernel
 have h2:=this ⟨c.toNat,c.toNat_lt⟩;simp only[UInt8.ofNat_toNat] at h2;exact h2 h
theorem LJ:∀l:List UInt8,(Lx.hexF (-1) l=match digF l with|.inl r=>.inl (OS r.1,r.2)|.inr e=>.inr e) ∧
  ∀c:UInt8,0≤Lx.digit c→Lx.hexF (Lx.digit c) l=match digF l with|.inl r=>.inl (OS (c::r.1),r.2)|.inr e=>.inr e
|[]=>⟨rfl,fun _ _=>rfl⟩
|x::t=>by
  have ih:=LJ t;by_cases g1:x=62
  ·refine⟨?_,fun c hc=>?_⟩
   ·rw[Lx.hexF,Yh g1,digF,Yh g1];rfl
   ·rw[Lx.hexF,Yh g1,digF,Yh g1,Yh hc];rfl
  by_cases g2:0≤Lx.digit x
  ·have hw:¬Oc.rX x=true:=fun h=>by have:=Ml x h;omega
   refine⟨?_,fun c hc=>?_⟩
   ·rw[Lx.hexF,Yg g1,Yg hw,Yg (by omega),Yh (by omega),digF,Yg g1,Yh g2,ih.2 x g2];cases digF t<;>rfl
   ·rw[Lx.hexF,Yg g1,Yg hw,Yg (by omega),Yg (by omega),digF,Yg g1,Yh g2,ih.1];cases digF t<;>rfl
  by_cases g3:Oc.rX x=true
  ·refine⟨?_,fun c hc=>?_⟩
   ·rw[Lx.hexF,Yg g1,Yh g3,digF,Yg g1,Yg g2,Yh g3,ih.1];cases digF t<;>rfl
   ·rw[Lx.hexF,Yg g1,Yh g3,digF,Yg g1,Yg g2,Yh g3,ih.2 c hc];cases digF t<;>rfl
  ·refine⟨?_,fun c hc=>?_⟩
   ·rw[Lx.hexF,Yg g1,Yg g3,Yh (by omega),digF,Yg g1,Yg g2,Yg g3]
   ·rw[Lx.hexF,Yg g1,Yg g3,Yh (by omega),digF,Yg g1,Yg g2,Yg g3]
theorem LK:∀(n:Nat) (l:List UInt8),l.length≤n→(∀c∈l,0≤Lx.digit c)→Lx.unhex (padH l)=some (OS l)
|_,[],_,_=>rfl
|_,[a],_,h=>by
  have h0:=h a (by simp);have e:padH [a]=[a,48]:=rfl;rw[e,Lx.unhex,Yg (by rw[show Lx.digit 48=0 from rfl];omega),Lx.unhex];rfl
|0,_::_::_,h,_=>by simp at h
|n+1,a::b::t,hl,h=>by
  simp only[Yr] at hl;have ih:=LK n t (by omega) (fun c hc=>h c (by simp[hc]));have ha:=h a (by simp);have hb:=h b (by simp);have e:padH (a::b::t)=a::b::padH t:=by
   unfold padH;simp only[Yr,Nat.add_mod_right,show t.length+1+1=t.length+2 from rfl];split<;>simp
  rw[e,Lx.unhex,Yg (by omega),ih,OS];rfl
def hexR (s:List UInt8)(at_:Nat):(List UInt8×Nat) ⊕ Int:=Lx.hexF (-1) (s.drop at_)
 attribute [local congr] kS in
theorem Ql (s:List UInt8)(a:Nat)(w:World)(hs:s.length≤1099511627776)(ha:a≤s.length):Ret prog 166 #[.string ⟨s.toArray⟩,.int .i64 a] w (fun v w'=>v=strR s a (hexR s a)∧Below w.heap.size w w'):=by
  refine aO fun K hK=>A7 ?_;unfold kK
  let ext (acc:List UInt8) (n:Nat) (r:(List UInt8×Nat) ⊕ Int):(List UInt8×Nat) ⊕ Int:=match r with|.inl r=>.inl (acc++r.1,r.2+n)|.inr e=>.inr e
  refine loop (fun vs w'=>∃(i:Nat) (v:Value) (acc:List UInt8),vs=[.int .i64 i,v]∧a≤i∧i≤s.length∧acc.length≤i∧(∀c∈acc,0≤Lx.digit c)∧digF (s.drop a)=ext acc (i - a) (digF (s.drop i))∧Own w w' [BRow v acc])
   (fun vs _=>s.length - n0 vs) ⟨a,_,[],rfl,by omega,ha,by simp,by simp,?_,(Own.start w).uG _ 1⟩ ?_
  ·cases digF (s.drop a)<;>simp[ext]
  rintro vs w4 ⟨i,v,acc,rfl,hi1,hi2,hacc,hall,he,ho⟩ _;simp only[oU,gd,bF Ym,iN,dx,gtx,etx,cx];have hHF:=(LJ (s.drop a)).1;by_cases hlt:(i:Int) < (s.length:Int)
  ·have hi3:i < s.length:=by omega
   have hd:=Lx.drop_cons hi3;rw[hd,digF] at he;have e1:decide ((s[i].toNat:Int)≠62)=decide (s[i]≠62):=by
    have:=u8d s[i] 62 62 rfl;rw[decide_not,decide_not,this]
   by_cases g1:s[i]=62
   ·have hlt2:¬((s.length:Int)≤(i:Int)):=by omega
    have g1':¬(s[i]≠62):=fun h=>h g1;simp only[rs,hlt,Yj,s_at hi3,e1,Yl g1',bF Ym,hlt2,Yi,bY Y3 (ho.D5 0 rfl)];rw[Yh g1] at he;have he:digF (s.drop a)=.inl (acc,1+(i - a)):=by rw[he];simp[ext]
    rw[he] at hHF;refine join fun J3 hJ3=>?_;have fin:∀(v':Value) (w5:World),Own w w5 [BRow v' (padH acc)]→J3 [v'] w5:=by
     intro v' w5 ho;refine hJ3 _ _ fun _=>?_;simp only[pC,gd,DO 0 ho rfl,iN,dx,cx];have hpl:(padH acc).length≤acc.length+1:=by unfold padH;split<;>simp
     refine aP ho (Pt (padH acc) w5 (by omega)) ?_;rintro _ w6 rfl ho;rw[wT (LK _ acc (Yw _) hall)];simp only[ex,rs,bF Ym];by_cases hbig:(32767:Int) < ((OS acc).length:Int)
     ·simp only[hbig,Yj,i_t];exact hK _ _ ⟨by rw[hexR,hHF];simp only[strR];rw[Yh (by omega)],ho.done⟩
     ·simp only[hbig,Yi,i_f,rs];rw[aB (by omega) (by omega)];exact hK _ _ ⟨by rw[hexR,hHF];simp only[strR];rw[Yg (by omega),show ((a+(1+(i - a)):Nat):Int)=(i:Int)+1 by omega],ho.done⟩
    rw[EC (by omega)];have hr:((acc.length:Int).tmod 2)=((acc.length % 2:Nat):Int):=by rw[Zl (by omega)];omega
    rw[hr];by_cases hodd:acc.length % 2=0
    ·rw[hodd];simp only[rs,ne_eq,Int.natCast_zero,not_true,Yi];exact fin _ _ (by rw[padH,Yh hodd];exact ho)
    ·have hne:((acc.length % 2:Nat):Int)≠0:=by omega
     simp only[rs,Yk hne];refine Dq 48 rfl ho (by omega) fun v' w5 ho=>?_;exact fin _ _ (by rw[padH,Yg hodd];exact ho)
   ·simp only[rs,hlt,Yj,s_at hi3,e1,Yk g1];rw[Yg g1] at he;refine join fun J2 hJ2=>?_;have go:∀(v':Value) (acc':List UInt8) (w5:World),acc'.length≤i+1→(∀c∈acc',0≤Lx.digit c)→digF (s.drop a)=ext acc' (i+1 - a) (digF (s.drop (i+1)))→Own w w5 [BRow v' acc']→J2 [v'] w5:=by
     intro v' acc' w5 h1 h2 h3 ho;refine hJ2 _ _ fun _=>?_;simp only[pM,gd,rs,iN,dx];rw[aB (by omega) (by omega)];exact bO ⟨i+1,v',acc',rfl,by omega,by omega,h1,h2,h3,ho⟩ (by simp[n0,RowKit.intOf];omega)
    refine c_eq (uS s[i] w4) ?_;by_cases g2:0≤Lx.digit s[i]
    ·simp only[rs,g2,Yj,s_at hi3];rw[Yh g2] at he;refine Dq s[i] rfl ho (by omega) fun v' w5 ho=>?_;refine go v' _ _ (by simp;omega) ?_ ?_ ho
     ·intro c hc;rcases YZ.1 hc with h|h
      ·exact hall c h
      ·rw[Zs] at h;rw[h];exact g2
     ·rw[he];cases digF (s.drop (i+1)) with
     |inl r=>simp only[ext,YD,acO];rw[show r.2+1+(i - a)=r.2+(i+1 - a) by omega]
     |inr e=>rfl
    ·simp only[rs,g2,Yi,s_at hi3];rw[Yg g2] at he;refine c_eq (E7 s[i] w4) ?_;cases hw:Oc.rX s[i] with
    |true=>
      simp only[rs,YE];rw[Yh hw] at he;refine go v acc _ (by omega) hall ?_ ho;rw[he];cases digF (s.drop (i+1)) with
     |inl r=>simp only[ext];rw[show r.2+1+(i - a)=r.2+(i+1 - a) by omega]
     |inr e=>rfl
    |false=>
      simp only[rs,YJ];rw[Yg (by rw[hw];decide)] at he;rw[he] at hHF;exact hK _ _ ⟨by rw[hexR,hHF];rfl,ho.done⟩
  ·have hi3:i=s.length:=by omega
   have hge:((s.length:Int)≤(i:Int)):=by omega
   rw[hi3,YX] at he;rw[he] at hHF;simp only[rs,hlt,Yi,g_un,bF Ym,hge,Yj];exact hK _ _ ⟨by rw[hexR,hHF];rfl,ho.done⟩
theorem Og {s:List UInt8}{a:Nat}{r:List UInt8×Nat}:strR s a (.inl r)=.tuple #[.string ⟨(if 32767 < r.1.length then ([]:List UInt8) else r.1).toArray⟩,.int .i64 (if 32767 < r.1.length then 0 else ((a+r.2:Nat):Int)),.int .i64 (if 32767 < r.1.length then 5 else 0)]:=by
 unfold strR;simp only;by_cases h:32767 < r.1.length
 ·simp only[Yh h]
 ·simp only[Yg h]
theorem T7 (a:Nat)(r:(List UInt8×Nat) ⊕ Int):(match r with|.inr e=>Lx.refused e|.inl r=>Lx.told 3 a (a+1+r.2:Nat) r.1 32767) =
  match r with
 |.inr e=>Lx.refused e
 |.inl r=>if 32767 < r.1.length then Lx.refused 5 else (⟨3,a,(a+1+r.2:Nat),0,r.1⟩,0):=by
 cases r with
|inr e=>rfl
|inl r=>
  simp only[Lx.told];by_cases h:32767 < r.1.length
  ·rw[Yh h,Yh (by omega)]
  ·rw[Yg h,Yg (by omega)]
theorem OZ (s:List UInt8)(a:Nat):Lx.text s a=match GX s (a+1) with|.inr e=>Lx.refused e|.inl r=>Lx.told 3 a (a+1+r.2:Nat) r.1 32767:=by
 unfold Lx.text GX;cases Lx.cE 0 1 (s.drop (a+1))<;>rfl
theorem QS (s:List UInt8)(a:Nat)(e:Int)(h:GX s a=.inr e):e≠0:=by
 unfold GX at h;split at h
 ·cases h;decide
 ·cases h
theorem GB:∀(l:List UInt8) (h e:Int),Lx.hexF h l=.inr e→e≠0
|[],_,e,h=>by rw[Lx.hexF] at h;cases h;decide
|c::t,h,e,he=>by
  rw[Lx.hexF] at he;split at he
  ·cases he
  ·split at he
   ·cases hh:Lx.hexF h t with
   |inl r=>rw[hh] at he;cases he
   |inr e'=>rw[hh] at he;cases he;exact GB t h e hh
   ·split at he
    ·cases he;decide
    ·split at he
     ·cases hh:Lx.hexF (Lx.digit c) t with
     |inl r=>rw[hh] at he;cases he
     |inr e'=>rw[hh] at he;cases he;exact GB t _ e hh
     ·cases hh:Lx.hexF (-1) t with
     |inl r=>rw[hh] at he;cases he
     |inr e'=>rw[hh] at he;cases he;exact GB t _ e hh
theorem OT (s:List UInt8)(a:Nat)(w:World)(hs:s.length≤1099511627776)(ha:a < s.length):Ret prog 112 #[.string ⟨s.toArray⟩,.int .i64 a] w (fun v w'=>v=tokR (Lx.token s a)∧Below w.heap.size w w'):=by
 refine aO fun K hK=>xC ?_;unfold gW iN dx gtx gfx etx efx cx;refine gJ (Own.start w) fun b w1 ho=>?_;have hd:=Lx.drop_cons ha;have hT:Lx.token s a=if s[a]=91∨s[a]=93∨s[a]=123∨s[a]=125 then Lx.mark s a 1
  else if s[a]=60 then (if (s.drop (a+1)).head?=some s[a] then Lx.mark s a 2 else Lx.hex s a)
  else if s[a]=62 then (if (s.drop (a+1)).head?=some s[a] then Lx.mark s a 2 else Lx.refused 3)
  else if s[a]=47 then Lx.name s a
  else if s[a]=40 then Lx.text s a
  else if s[a]=41 then Lx.refused 3
  else Lx.word s a:=by rw[Lx.token,hd]
 have hw1:IntKind.wrap .i64 ((a:Int)+1)=((a+1:Nat):Int):=by rw[aB (by omega) (by omega)];omega
 have hw2:IntKind.wrap .i64 ((a:Int)+2)=((a+2:Nat):Int):=by rw[aB (by omega) (by omega)];omega
 -- the byte behind is the same
 have two:(s.drop (a+1)).head?=some s[a]→a+2≤s.length:=by
  intro h;cases hdd:s.drop (a+1) with
 |nil=>rw[hdd] at h;cases h
 |cons x t=>
   have:=congrArg List.length hdd;simp at this;omega
 have hdbl:∀{E:VWP},E (.bool (decide ((s.drop (a+1)).head?=some s[a]))) w1→DoX prog (mB .len #[9] 3 #[false] #[.string ⟨s.toArray⟩]) w1 (pk K) fun t23 w=>
   DoX prog (mBin .lss 3 (.int .i64 ((a+1:Nat):Int)) t23) w (pk K) fun t24 w=>
   GDo t24 true (fun E=>E (.string ⟨s.toArray⟩) w) w fun t26 w=>
   GDo t24 true (fun E=>E (.int .i64 a) w) w fun t27 w=>
   GDo t24 true (fun E=>DoX prog (mBin .add 3 t27 (.int .i64 1)) w (pk K) E) w fun t28 w=>
   GDo t24 true (fun E=>DoX prog (mIx 9 t26 t28) w (pk K) E) w fun t29 w=>
   GDo t24 true (fun E=>E (.int .u8 s[a].toNat) w) w fun t30 w=>
   GDo t24 true (fun E=>DoX prog (mEq .eql 5 (.tmp 29) (.tmp 30) t29 t30) w (pk K) E) w fun t31 w=>
   DoX prog (aF t24 t31 (.bool false)) w (pk K) E:=by
  intro E hE;by_cases h:((a+1:Nat):Int) < (s.length:Int)
  ·have h2:a+1 < s.length:=by omega
   simp only[bF Ym,rs,h,Yj,hw1,s_at h2];rw[show decide ((s[a+1].toNat:Int)=(s[a].toNat:Int))=decide ((s.drop (a+1)).head?=some s[a]) by
    rw[u8d s[a+1] _ s[a] rfl,Lx.drop_cons h2,aaR];by_cases g:s[a+1]=s[a]
    ·rw[Yk g,Yk (by rw[g])]
    ·rw[Yl g,Yl (by simpa using g)]]
   exact hE
  ·rw[Yl (by rw[YP (by omega)];simp)] at hE;simp only[bF Ym,rs,h,Yi,g_un];exact hE
 simp only[s_at ha];rw[qD,hw1];refine hdbl ?_;generalize hD:decide ((s.drop (a+1)).head?=some s[a])=D at *;have hDt:D=true→(s.drop (a+1)).head?=some s[a]:=fun h=>by rw[h] at hD;exact YF hD
 have hDf:D=false→¬(s.drop (a+1)).head?=some s[a]:=fun h=>by rw[h] at hD;exact Y5 hD
 have q1:=u8d s[a] 60 60 rfl;have q2:=u8d s[a] 62 62 rfl;have q3:=u8d s[a] 47 47 rfl;have q4:=u8d s[a] 40 40 rfl;have q5:=u8d s[a] 41 41 rfl;have p1:=u8d s[a] 91 91 rfl;have p2:=u8d s[a] 93 93 rfl;have p3:=u8d s[a] 123 123 rfl;have p4:=u8d s[a] 125 125 rfl;have mk:∀n:Nat,a+n≤s.length→Lx.token s a=Lx.mark s a n→DoX prog (aT 9 (.string ⟨s.toArray⟩) (some (.int .i64 a)) (some (.int .i64 ((a+n:Nat):Int))) none) w1 (pk K) fun t49 w=>
   DoX prog (aJ 58 #[(0,(.int .i64 6)),(1,.int .i64 a),(2,.int .i64 ((a+n:Nat):Int)),(4,t49)]) w (pk K) fun t50 w=>
   DoX prog (aC 58 (.pointer (some ⟨b,0,none⟩)) t50) w (pk K) fun _ w=>
   RetX prog [.cell (.pointer (some ⟨b,0,none⟩)) 58,.val (.int .i64 0)] w K:=by
  intro n hn hm;rw[JV (i:=a) (j:=a+n) rfl rfl (by omega) hn,Ns];exact cV 0 ho rfl fun w' ho=>hK _ _ ⟨by rw[hm];rfl,ho.done⟩
 have no:∀(e:Int),Lx.token s a=Lx.refused e→DoX prog (aJ 58 #[]) w1 (pk K) fun t50 w=>
   DoX prog (aC 58 (.pointer (some ⟨b,0,none⟩)) t50) w (pk K) fun _ w=>
   RetX prog [.cell (.pointer (some ⟨b,0,none⟩)) 58,.val (.int .i64 e)] w K:=by
  intro e hm;rw[Dj];exact cV 0 ho rfl fun w' ho=>hK _ _ ⟨by rw[hm];rfl,ho.done⟩
 -- strings
 have str:∀(r:(List UInt8×Nat) ⊕ Int) (w2:World),Own w w2 [tokE b Lx.none_]→(∀e,r=.inr e→e≠0)→Lx.token s a=(match r with|.inr e=>Lx.refused e|.inl r=>Lx.told 3 a (a+1+r.2:Nat) r.1 32767)→∀x y z,strR s (a+1) r=.tuple #[x,y,z]→eU (.int .i64 a) (.pointer (some ⟨b,0,none⟩)) x y z w2 K:=by
  intro r w2 ho hpos hm x y z hxyz;rw[T7] at hm;unfold eU iN dx;cases r with
 |inr e=>
   simp only[strR] at hxyz
   injection hxyz with hxyz
   injection hxyz with hxyz
   simp only[abT,and_true] at hxyz;obtain⟨rfl,rfl,rfl⟩:=hxyz;have he:=hpos e rfl;simp only[rs,Yk he,Dj];exact cV 0 ho rfl fun w' ho=>hK _ _ ⟨by rw[hm];rfl,ho.done⟩
 |inl r=>
   rw[Og] at hxyz
   injection hxyz with hxyz
   injection hxyz with hxyz
   simp only[abT,and_true] at hxyz;obtain⟨rfl,rfl,rfl⟩:=hxyz;by_cases hbig:32767 < r.1.length
   ·simp only[Yh hbig,rs,ne_eq,show ¬((5:Int)=0) by decide,Yz,Yj,Dj];exact cV 0 ho rfl fun w' ho=>hK _ _ ⟨by rw[hm];simp only;rw[Yh hbig];rfl,ho.done⟩
   ·simp only[Yg hbig,rs,ne_eq,not_true,Yi,Ns];exact cV 0 ho rfl fun w' ho=>hK _ _ ⟨by rw[hm];simp only;rw[Yg hbig],ho.done⟩
 have trip:∀r,∃x y z,strR s (a+1) r=.tuple #[x,y,z]:=by
  intro r;cases r with
 |inr e=>exact⟨_,_,_,rfl⟩
 |inl r=>exact⟨_,_,_,Og⟩
 by_cases g1:s[a]=60
 ·have hT:Lx.token s a=if (s.drop (a+1)).head?=some s[a] then Lx.mark s a 2 else Lx.hex s a:=by
   rw[hT,Yg (by rw[g1];decide),Yh g1]
  simp only[rs,q1,Yk g1,g_un];cases hDD:D with
 |true=>
   have h2:=hDt hDD;simp only[rs,hw2];exact mk 2 (two h2) (by rw[hT,Yh h2])
 |false=>
   have h2:=hDf hDD;rw[Yg h2] at hT;have n1:¬s[a]=91:=by rw[g1];decide
   have n2:¬s[a]=93:=by rw[g1];decide
   have n3:¬s[a]=123:=by rw[g1];decide
   have n4:¬s[a]=125:=by rw[g1];decide
   have n5:¬s[a]=62:=by rw[g1];decide
   have n6:¬s[a]=41:=by rw[g1];decide
   have n7:¬s[a]=47:=by rw[g1];decide
   have n8:¬s[a]=40:=by rw[g1];decide
   simp only[rs,p1,p2,p3,p4,q2,q5,q3,q4,q1,Yl n1,Yl n2,Yl n3,Yl n4,Yl n5,Yl n6,Yl n7,Yl n8,Yk g1,g_un,hw1];refine aP ho (Oe s (a+1) w1 hs (by omega)) ?_;rintro _ w2 rfl ho;obtain⟨x,y,z,hxyz⟩:=trip (GX s (a+1));rw[hxyz];simp only[ex];refine join fun J hJ=>?_;refine aP ho (Ql s (a+1) w2 hs (by omega)) ?_;rintro _ w3 rfl ho;obtain⟨x',y',z',hxyz'⟩:=trip (hexR s (a+1));rw[hxyz'];simp only[ex];refine hJ _ _ fun _=>?_;simp only[gd];exact str (hexR s (a+1)) w3 ho (fun e he=>GB _ _ _ he) (by rw[hT,Lx.hex,hexR];cases Lx.hexF (-1) (s.drop (a+1))<;>rfl) _ _ _ hxyz'
 by_cases g2:s[a]=62
 ·have hT:Lx.token s a=if (s.drop (a+1)).head?=some s[a] then Lx.mark s a 2 else Lx.refused 3:=by
   rw[hT,Yg (by rw[g2];decide),Yg g1,Yh g2]
  simp only[rs,q1,Yl g1,q2,Yk g2,g_un];cases hDD:D with
 |true=>
   have h2:=hDt hDD;simp only[rs,hw2];exact mk 2 (two h2) (by rw[hT,Yh h2])
 |false=>
   have h2:=hDf hDD;rw[Yg h2] at hT;have n1:¬s[a]=91:=by rw[g2];decide
   have n2:¬s[a]=93:=by rw[g2];decide
   have n3:¬s[a]=123:=by rw[g2];decide
   have n4:¬s[a]=125:=by rw[g2];decide
   simp only[rs,p1,p2,p3,p4,q2,Yl n1,Yl n2,Yl n3,Yl n4,Yk g2,g_un];exact no 3 hT
 simp only[rs,q1,Yl g1,q2,Yl g2,g_un];by_cases b1:s[a]=91
 ·simp only[rs,p1,Yk b1,g_un,hw1];exact mk 1 (by omega) (by rw[hT,Yh (.inl b1)])
 by_cases b2:s[a]=93
 ·simp only[rs,p1,Yl b1,p2,Yk b2,g_un,hw1];exact mk 1 (by omega) (by rw[hT,Yh (.inr (.inl b2))])
 by_cases b3:s[a]=123
 ·simp only[rs,p1,Yl b1,p2,Yl b2,p3,Yk b3,g_un,hw1];exact mk 1 (by omega) (by rw[hT,Yh (.inr (.inr (.inl b3)))])
 by_cases b4:s[a]=125
 ·simp only[rs,p1,Yl b1,p2,Yl b2,p3,Yl b3,p4,Yk b4,g_un,hw1];exact mk 1 (by omega) (by rw[hT,Yh (.inr (.inr (.inr b4)))])
 rw[Yg (by rintro (h|h|h|h)<;>contradiction),Yg g1,Yg g2] at hT;simp only[rs,p1,p2,p3,p4,Yl b1,Yl b2,Yl b3,Yl b4,g_un,q2,Yl g2];by_cases g5:s[a]=41
 ·simp only[rs,q5,Yk g5,g_un];exact no 3 (by rw[hT,Yg (by rw[g5];decide),Yg (by rw[g5];decide),Yh g5])
 simp only[rs,q5,Yl g5];by_cases g3:s[a]=47
 ·rw[Yh g3] at hT;simp only[rs,q3,Yk g3,hw1];refine c_eq (Od s (a+1) w1 hs (by omega)) ?_;have hto:=Lx.Jg s (show a+1≤s.length by omega);have hto2:a+1≤Lx.run s (a+1):=by unfold Lx.run;omega
  rw[JV rfl rfl hto2 hto];have hcl:(Lx.cut s (a+1) (Lx.run s (a+1))).length≤s.length:=by rw[BO hto];omega
  refine aP ho (Pz _ w1 (by omega)) ?_;rintro _ w2 rfl ho;have hN:Lx.token s a=if (IG (Lx.cut s (a+1) (Lx.run s (a+1)))).2≠0 then Lx.refused (IG (Lx.cut s (a+1) (Lx.run s (a+1)))).2 else (⟨4,a,Lx.run s (a+1),0,(IG (Lx.cut s (a+1) (Lx.run s (a+1)))).1⟩,0):=by
   rw[hT,Lx.name,IG];cases Lx.fA (Lx.cut s (a+1) (Lx.run s (a+1))) with
  |none=>rfl
  |some x=>
    simp only[Lx.told];by_cases h:127 < x.length
    ·rw[Yh (by omega),Yh h];simp[Lx.refused]
    ·rw[Yg (by omega),Yg h];simp
  simp only[ex,rs];by_cases he:(IG (Lx.cut s (a+1) (Lx.run s (a+1)))).2≠0
  ·rw[Yh he] at hN;simp only[Yk he,i_t,Dj];exact cV 0 ho rfl fun w' ho=>hK _ _ ⟨by rw[hN];rfl,ho.done⟩
  ·rw[Yg he] at hN;simp only[Yl he,i_f,Ns];exact cV 0 ho rfl fun w' ho=>hK _ _ ⟨by rw[hN],ho.done⟩
 simp only[rs,q3,Yl g3];rw[Yg g3] at hT;by_cases g4:s[a]=40
 ·rw[Yh g4] at hT;simp only[rs,q4,Yk g4,g_un,hw1];refine aP ho (Oe s (a+1) w1 hs (by omega)) ?_;rintro _ w2 rfl ho;obtain⟨x,y,z,hxyz⟩:=trip (GX s (a+1));rw[hxyz];simp only[ex];refine join fun J hJ=>?_;refine hJ _ _ fun _=>?_;simp only[gd];exact str (GX s (a+1)) w2 ho (fun e he=>QS _ _ _ he) (by rw[hT,OZ]) _ _ _ hxyz
 rw[Yg g4,Yg g5] at hT;simp only[rs,q4,Yl g4,q1,Yl g1];refine c_eq (Od s a w1 hs (by omega)) ?_;have hto:=Lx.Jg s (show a≤s.length by omega);have hto2:a≤Lx.run s a:=by unfold Lx.run;omega
 rw[JV rfl rfl hto2 hto];have hcl:(Lx.cut s a (Lx.run s a)).length≤s.length:=by rw[BO hto];omega
 refine aP ho (Rh _ w1 (by omega)) ?_;rintro _ w2 rfl ho;have hW:Lx.token s a=_:=hT.trans (Mb (Lx.cut s a (Lx.run s a)) a (Lx.run s a));simp only[tokR,ex];refine gJ ho fun b2 w3 ho=>?_;refine HE 0 ho rfl (new:=tokC (oI (Lx.cut s a (Lx.run s a))).1) U6 (KN _) rfl fun w4 ho=>?_;have ho:Own w w4 [tokE b2 (oI (Lx.cut s a (Lx.run s a))).1,tokE b Lx.none_]:=ho;simp only[rs];by_cases he:(oI (Lx.cut s a (Lx.run s a))).2≠0
 ·rw[Yh he] at hW;simp only[Yk he,i_t,Dj];exact cV 1 ho rfl fun w' ho=>hK _ _ ⟨by rw[hW];rfl,ho.done⟩
 ·rw[Yg he] at hW;simp only[Yl he,i_f];rw[dJ (show fOff prog 58 1=some 1 by kernel_rfl)];refine aW 0 ho rfl (by kernel_rfl) rfl (by simp[tokC]) fun w5 ho=>?_;rw[dJ (show fOff prog 58 2=some 2 by kernel_rfl)];refine aW 0 ho rfl (by kernel_rfl) rfl (by simp[tokC]) fun w6 ho=>?_;have ho:Own w w6 [tokE b2 { (oI (Lx.cut s a (Lx.run s a))).1 with a:=a,t:=Lx.run s a },tokE b Lx.none_]:=ho;rw[l_at (ho.agg 0 rfl Fw)];exact cV 1 ho rfl fun w' ho=>hK _ _ ⟨by rw[hW],ho.done⟩
theorem mK (s:List UInt8)(i:Int)(w:World)(hs:s.length≤1099511627776):Ret prog 67 #[.string ⟨s.toArray⟩,.int .i64 i] w (fun v w'=>v=tokR (Lx.next s i)∧Below w.heap.size w w'):=by
 refine aO fun K hK=>zS ?_;unfold qK iN dx gfx efx cx;refine gJ (Own.start w) fun b w1 ho=>?_;have out:(i < 0∨(s.length:Int) < i)→DoX prog (aJ 58 #[]) w1 (pk K) fun t50 w=>
   DoX prog (aC 58 (.pointer (some ⟨b,0,none⟩)) t50) w (pk K) fun _ w=>
   RetX prog [.cell (.pointer (some ⟨b,0,none⟩)) 58,.val (.int .i64 1)] w K:=by
  intro h;rw[Dj];exact cV 0 ho rfl fun w' ho=>hK _ _ ⟨by rw[Lx.next,Yh h];rfl,ho.done⟩
 by_cases h1:i < 0
 ·simp only[rs,h1,Yj,g_un];exact out (.inl h1)
 simp only[rs,h1,Yi,bF Ym];by_cases h2:(s.length:Int) < i
 ·simp only[rs,h2,Yj];exact out (.inr h2)
 simp only[rs,h2,Yi];have hsk:Lx.Ek s i=((Lx.skip s i.toNat:Nat):Int):=by rw[Lx.Ek,Yg (by omega)]
 have hN:Lx.next s i=Lx.token s (Lx.skip s i.toNat):=by rw[Lx.next,Yg (by omega)]
 have hle:=Lx.MX s (k:=i.toNat) (by omega);refine c_eq (Rl s i w1 hs) ?_;rw[hsk];generalize Lx.skip s i.toNat=a at *;simp only[bF Ym,rs];by_cases hend:(s.length:Int)≤(a:Int)
 ·have:a=s.length:=by omega
  simp only[hend,Yj,i_t,SC];refine cV 0 ho rfl fun w' ho=>hK _ _ ⟨?_,ho.done⟩;rw[hN,Lx.token,this,YX]
 ·simp only[hend,Yi,i_f];exact cF 0 ho rfl (OT s a w1 hs (by omega)) fun w' hb=>hK _ _ ⟨by rw[hN],hb⟩
end
section
open Eng Go.RowKit
section
variable {w:World}{PK:PKT}{K:VWP}{S:Nat→Prop}{w0:World}{L:List Ent}
theorem cO {b:Nat}:DoX prog (mFA 58 (.pointer (some ⟨b,0,none⟩)) 0) w PK K=K (.pointer (some ⟨b,0,none⟩)) w:=dJ (show fOff prog 58 0=some 0 by kernel_rfl)
theorem Hw {b:Nat}:DoX prog (mFA 58 (.pointer (some ⟨b,0,none⟩)) 2) w PK K=K (.pointer (some ⟨b,2,none⟩)) w:=dJ (show fOff prog 58 2=some 2 by kernel_rfl)
end
end
end Go.Proofs.YtkejpieaafeblaaGreatDoor

namespace Go.Proofs.YtkejpieaafeblaaGreatDoor
section
open Eng Go.RowKit
theorem draw {w:World}{F:World→Prop}(h:F w.drew):DrawX w F:=⟨h⟩
end
end Go.Proofs.YtkejpieaafeblaaGreatDoor




namespace Go.Proofs.YtkejpieaafeblaaGreatDoor
section
open Eng Go.RowKit
theorem Tb.mono {w w':World}(h:Tb w)(hb:Below w.heap.size w w'):Tb w':=
 Go.Joins.tab_stays (show Tryz.prog.globalNamed "internal/strconv.uint64pow10"=some 0 by kernel_rfl) h hb (Yw _)
theorem Tb.own {w w':World}{L:List Ent}(h:Tb w)(ho:Own w w' L):Tb w':=h.mono ho.done
end
section
open Eng Go.RowKit
theorem smp1:Lx.next [55,46] 0=(⟨2,0,2,70000,[]⟩,0):=by decide +kernel
theorem smp2:Lx.next [32,55,120] 0=(⟨5,1,3,0,[55,120]⟩,0):=by decide +kernel
theorem smp3:Lx.next [45,48] 0=(⟨1,0,2,0,[]⟩,0):=by decide +kernel
theorem smp4:Lx.next [41] 0=(Lx.none_,3):=by decide +kernel
theorem smp5:Lx.next [40,97] 0=(Lx.none_,4):=by decide +kernel
end
end Go.Proofs.YtkejpieaafeblaaGreatDoor







namespace Go.Proofs.YtkejpieaafeblaaGreatDoor
section
open Eng Go.RowKit
section
variable {w:World}{PK:PKT}{K:VWP}{S:Nat→Prop}{w0:World}{L:List Ent}
end
abbrev fE (v:Value)(l:List (List UInt8)):Ent:=.row 9 1 v l.length (bB l)
end
section
open Eng Go.RowKit
theorem DD {A:Nat→Prop}{wb:World}{o:Ob}{vk vc:Value}{cs:List Value}(h:ObAt A wb o vk vc cs){i:Nat}(hi:i < o.kids.length) :
  ∃v p,OV A wb v o.kids[i]∧∀W,Kept A wb W→(mIA 23 vc (.int .i64 (i:Int))).run prog W=.ok (.value (.pointer (some p))) W∧(aA 25 (.pointer (some p))).run prog W=.ok (.value v) W:=by
 obtain⟨b,off,cap,rfl,_⟩:=jB h.kids.1 (by omega);obtain⟨a,hl,hov,hget⟩:=OVs.get _ _ i hi h.all;refine⟨.agg a.toArray,⟨b,off+i*6,none⟩,hov,fun W hk=>⟨?_,?_⟩⟩
 ·have:=oV (P:=prog) (T:=23) (b:=b) (off:=off) (cap:=cap) (n:=o.kids.length) (k:=.i64) (i:=(i:Int)) (w:=W) Yt szOb (by omega) (by omega);rw[Yo] at this;exact this
 ·obtain⟨b',off',cap',he,hc⟩:=jB (h.kept hk).kids.1 (by omega);cases he;refine dH (v:=.agg a.toArray) (AtV.agg dM hl fun j v hj=>?_);rw[Zr];exact hc _ _ (hget j v hj)
theorem NJ {A:Nat→Prop}{wb:World}{o:Ob}{vk vc:Value}{cs:List Value}(h:ObAt A wb o vk vc cs){i:Nat}(hi:i < o.keys.length) :
  ∃p,∀W,Kept A wb W→(mIA 22 vk (.int .i64 (i:Int))).run prog W=.ok (.value (.pointer (some p))) W∧(aA 9 (.pointer (some p))).run prog W=.ok (.value (.string ⟨o.keys[i].toArray⟩)) W:=by
 obtain⟨b,off,cap,rfl,_⟩:=jB h.keys.1 (by omega);refine⟨⟨b,off+i,none⟩,fun W hk=>⟨?_,?_⟩⟩
 ·have:=oV (P:=prog) (T:=22) (b:=b) (off:=off) (cap:=cap) (n:=o.keys.length) (k:=.i64) (i:=(i:Int)) (w:=W) Yn (show _=some 1 by kernel_rfl) (by omega) (by omega);rw[Yo,Zk] at this;exact this
 ·obtain⟨b',off',cap',he,hc⟩:=jB (h.kept hk).keys.1 (by omega);cases he;exact aL qQ (hc i _ (cD hi))
theorem VR {w:World}{v:Value}{sz n:Nat}{cs:List Value}(h:Sl w v sz n cs):v.oneCell'=true:=by
 obtain⟨_,a,cap,rfl,_⟩:=h;rfl
theorem PV {l:List (List UInt8)}:∀x∈bB l,x.oneCell'=true:=by
 intro x hx;obtain⟨y,_,rfl⟩:=YN.1 hx;rfl
section
variable {w:World}{PK:PKT}{K:VWP}{S:Nat→Prop}{w0:World}{L:List Ent}
theorem J9 (i:Nat){v v2:Value}{xs ys:List (List UInt8)}{cs:Array Bool}(ho:OwnS S w0 w L)(hi:L[i]?=some (fE v xs))(hs:Sl w v2 1 ys.length (bB ys))(hb:xs.length+ys.length≤1099511627776)
  (k:∀v' w',OwnS S w0 w' (L.set i (fE v' (xs++ys)))→K v' w'):DoX prog (mB .append #[22,22] 22 cs #[v,v2]) w PK K:=by
 refine GJ i Yn (show elB prog 9 1 16=true by kernel_rfl) (by decide) ho hi hs PV (by omega) (by omega) fun v' w' h=>k v' w' ?_;have e:fE v' (xs++ys)=.row 9 1 v' (xs.length+ys.length) (bB xs++bB ys):=by
  rw[fE,Yp];simp[bB]
 rw[e];exact h
theorem Ha (i:Nat){v:Value}{xs:List (List UInt8)}{y:List UInt8}{cs:Array Bool}{PK2:PKT}(ho:OwnS S w0 w L)(hi:L[i]?=some (fE v xs))(hb:xs.length≤100000000000)
  (k:∀v' w',OwnS S w0 w' (L.set i (fE v' (xs++[y])))→K v' w') :
  DoX prog (aS 22 1 #[(0,.string ⟨y.toArray⟩)]) w PK fun t w=>DoX prog (mB .append #[22,22] 22 cs #[v,t]) w PK2 K:=by
 refine cI (fun b=>.slice (some ⟨b,0,none⟩) 1 1) [.string ⟨y.toArray⟩] 9 (fun _=>by kernel_rfl) ho fun nb w4 h4=>?_;refine J9 (i+1) h4 (by rw[abC];exact hi) (ys:=[y]) (h4.sl 0 rfl 1 1 1 rfl) (by simp;omega) fun v' w5 h5=>k v' w5 h5.tail
end
theorem Db (n:Int)(w:World):Ret prog 143 #[.int .i64 n] w (fun v w'=>v=.string ⟨(Wr.num n).toArray⟩∧Below w.heap.size w w'):=by
 refine aO fun K hK=>vG ?_;unfold nO dx cx;refine c_eq (SO n w) ?_;simp only[ex];exact hK _ _ ⟨rfl,Below.refl _ _⟩
theorem SN (o:Ob)(vk vc:Value)(cs:List Value)(w:World)(h:ObAt (InW w) w o vk vc cs)(hs:o.k=4→o.s.length≤1000000):Ret prog 145 #[obV o vk vc] w
  (fun v w'=>v=.string ⟨(Wr.leaf o.k o.n o.s).toArray⟩∧Below w.heap.size w w'):=by
 refine aO fun K hK=>zX ?_;unfold iR iN dx cx;refine cY o h.keys.one h.kids.one (Own.start w) fun b w1 ho=>?_;refine join fun J hJ=>?_;have fin:∀{t:List UInt8} {W:World} {L:List Ent},Own w W L→t=Wr.leaf o.k o.n o.s→J [.string ⟨t.toArray⟩] W:=by
  rintro t W L ho rfl;exact hJ _ _ fun _=>hK _ _ ⟨rfl,ho.done⟩
 rw[cN,ob_k ho 0 rfl];simp only[rs,vI,Cd,ob_n ho 0 rfl,ob_s ho 0 rfl];by_cases k1:o.k=1
 ·by_cases hn:o.n=0
  ·simp only[k1,hn,Yj,i_t];exact fin (t:=Wr.fal) ho (by simp[Wr.leaf,k1,hn])
  ·simp only[k1,hn,Yj,Yi,i_t,i_f];exact fin (t:=Wr.tru) ho (by simp[Wr.leaf,k1,hn])
 by_cases k2:o.k=2
 ·simp only[k2,Int.reduceEq,Yj,Yi,i_t,i_f];refine dO (Db o.n w1) rfl ho fun w2 ho=>?_;exact fin ho (by simp[Wr.leaf,k2])
 by_cases k3:o.k=3
 ·simp only[k3,Int.reduceEq,Yj,Yi,i_t,i_f];refine dO (R4 o.n w1) rfl ho fun w2 ho=>?_;simp only[ex];exact fin ho (by simp[Wr.leaf,k3])
 by_cases k4:o.k=4
 ·simp only[k4,Int.reduceEq,Yj,Yi,i_t,i_f];refine dO (SG o.s w1 (hs k4)) rfl ho fun w2 ho=>?_;simp only[ex];exact fin ho (by simp[Wr.leaf,k4])
 by_cases k5:o.k=5
 ·simp only[k5,Int.reduceEq,Yj,Yi,i_t,i_f];refine dO (Lw o.s w1) rfl ho fun w2 ho=>?_;simp only[ex];exact fin ho (by simp[Wr.leaf,k5])
 simp only[k1,k2,k3,k4,k5,Yi,i_f];exact fin (t:=Wr.nul) ho (by simp[Wr.leaf,k1,k2,k3,k4,k5])
theorem BI {d:Nat}{o:Ob}(h:Vl.why d o=0):d≤24∧Vl.eA o=true∧¬(o.k=9∧1 < d)∧Vl.fits o=true∧o.s.length≤Vl.long o.k∧o.kids.length≤8191∧Vl.form o=true:=by
 unfold Vl.why at h;split at h
 ·cases h
 split at h
 ·cases h
 split at h
 ·cases h
 split at h
 ·cases h
 split at h
 ·cases h
 split at h
 ·cases h
 rename_i h1 h2 h3 h4 h5 h6
 rw[not_or] at h2;exact⟨by omega,by simpa using h2.1,h2.2,by simpa using h3,by omega,by omega,by simpa using h6⟩
theorem Po (n:Nat):∀(o:Ob) (v:Value) (d:Nat) (w:World),o.wt≤n→OV (InW w) w v o→o.wt≤100000000→Vl.check d o=0 →
  Ret prog 95 #[v] w (fun v' w'=>Own w w' [fE v' (Wr.parts o)]):=by
 induction n with
|zero=>intro o v d w h;have:=o.FN;omega
|succ n ih=>
 intro o v d w hn hov hb hc;obtain⟨vk,vc,cs,rfl,ha⟩:=hov.open;obtain⟨_,_,_,_,hsl,hkl,hform⟩:=BI (Wr.DL hc);have hkc:=Wr.Jl hc;refine aO fun K hK=>wJ ?_;unfold gU iN dx cx;refine cY o ha.keys.one ha.kids.one (Own.start w) fun b w1 ho=>?_;rw[Wr.parts_eq] at hK;rw[cN,ob_k ho 0 rfl];simp only[rs];have hpl:=Wr.EW o.kids;have hpd:=Wr.BJ o.keys o.kids;have hww:Ob.wts o.kids≤100000000:=by cases o;rw[Ob.wt] at hb;simp only[Ob.kids];omega
 by_cases k8:o.k=8
 ·rw[Yh k8] at hK;simp only[k8,Yj,i_t];refine quiet ?_;refine q_at _ (fun W hW=>bC VT) ?_;refine q_at (.int .i64 o.n) (fun W hW=>aL nI65 ((ho.grow hW).cell 0 rfl 1 rfl)) ?_;refine gX _ (fun W hW=>(Db o.n W).mono fun v w' h=>⟨h.1,hW.trans (h.2.mono hW.size)⟩) ?_;refine q_at _ (fun W hW=>bC WB) ?_;refine q_at (.int .i64 o.g) (fun W hW=>aL kV ((ho.grow hW).cell 0 rfl 2 rfl)) ?_;refine gX _ (fun W hW=>(Db o.g W).mono fun v w' h=>⟨h.1,hW.trans (h.2.mono hW.size)⟩) ?_;intro W hW;refine cI (fun b=>.slice (some ⟨b,0,none⟩) 3 3) [.string ⟨(Wr.num o.n).toArray⟩,.string ⟨(Wr.num o.g).toArray⟩,.string ⟨#[82]⟩] 9 (fun _=>by kernel_rfl) (ho.grow hW) fun nb w4 h4=>?_;exact hK _ _ ((h4.QT 1 3 3 rfl (by omega) (by omega)).sub (.cons_cons _ (aaB _)))
 rw[Yg k8] at hK;simp only[k8,Yi,i_f];have lc:∀{W:World} {L:List Ent},Own w W L→∀{PK:PKT} {K:VWP},DoX prog (mB .len #[23] 3 #[false] #[vc]) W PK K=K (.int .i64 (o.kids.length:Int)) W:=fun ho=>bY Yt (ha.own ho).kids.1;have lk:∀{W:World} {L:List Ent},Own w W L→∀{PK:PKT} {K:VWP},DoX prog (mB .len #[22] 3 #[false] #[vk]) W PK K=K (.int .i64 (o.keys.length:Int)) W:=fun ho=>bY Yn (ha.own ho).keys.1;by_cases k6:o.k=6
 ·rw[Yh k6] at hK;simp only[k6,Yj,i_t];refine Ha 0 (xs:=[]) (y:=[91]) (ho.uG 9 1) rfl (by simp) fun v1 w2 ho=>?_;refine loop (fun vs w'=>∃(i:Nat) (v1:Value),vs=[v1,.int .i64 i]∧i≤o.kids.length∧Own w w' [fE v1 ([91]::Wr.dG (o.kids.take i)),obE b o vk vc]) (fun vs _=>o.kids.length - n1 vs) ⟨0,v1,rfl,by omega,ho⟩ ?_;rintro vs w3 ⟨i,v2,rfl,hi,ho⟩ _;have hl1:=Wr.Bq o.kids i;have hl2:=Wr.Bq o.kids (i+1);simp only[lI,gd,rs,dR,bJ ho 1 rfl,lc ho,iN,dx,cx];by_cases hlt:(i:Int) < (o.kids.length:Int)
  ·have hi':i < o.kids.length:=by omega
   simp only[hlt,Yj,i_t];obtain⟨v,p,hv,hr⟩:=DD ha hi';obtain⟨r1,r2⟩:=hr w3 (OwnS.keptIn ho);refine aU r1 |>.mpr (aU r2 |>.mpr ?_);have hkw:=Ec hi';refine dS (ih o.kids[i] v (d+1) w3 (by omega) (hv.at_ ho) (by omega) (hkc _ (YH hi'))) ?_;intro v4 w4 hnew;have ho:=ho.join hnew;have ho:Own w w4 [fE v4 (Wr.parts o.kids[i]),fE v2 ([91]::Wr.dG (o.kids.take i)),obE b o vk vc]:=ho;rw[Wr.CW o.kids i hi',Yp] at hl2;refine J9 1 ho rfl (ho.D5 0 rfl) (by simp;omega) fun v5 w5 ho=>?_;rw[aB (by omega) (by omega)];refine bO ⟨i+1,v5,rfl,by omega,?_⟩ (by simp[n1,RowKit.intOf];omega);rw[Wr.CW o.kids i hi'];exact ho.tail
  ·simp only[hlt,Yi,i_f];refine Ha 0 (y:=[93]) ho rfl (by simp;omega) fun v1 w2 ho=>?_;refine hK _ _ ?_;rw[YO (by omega)] at ho;exact ho.sub (.cons_cons _ (aaB _))
 rw[Yg k6] at hK;simp only[k6,Yi,i_f];by_cases k7:o.k=7
 ·rw[Yh k7] at hK;simp only[k7,Yj,i_t];have hle:o.keys.length=o.kids.length:=by
   have hf:=hform;simp only[Vl.form,k7,true_or,Yj,YE,ZN,Ys] at hf;have:=hf.2;simp only[Vl.rising,Ys,Yx] at this;exact this.1
  refine Ha 0 (xs:=[]) (y:=[60,60]) (ho.uG 9 1) rfl (by simp) fun v1 w2 ho=>?_;refine loop (fun vs w'=>∃(i:Nat) (v1:Value),vs=[v1,.int .i64 i]∧i≤o.kids.length∧Own w w' [fE v1 ([60,60]::Wr.bP (o.keys.take i) (o.kids.take i)),obE b o vk vc]) (fun vs _=>o.kids.length - n1 vs) ⟨0,v1,rfl,by omega,by simpa[Wr.bP] using ho⟩ ?_;rintro vs w3 ⟨i,v2,rfl,hi,ho⟩ _;have hl1:=Wr.rS o.keys o.kids i;have hl2:=Wr.rS o.keys o.kids (i+1);simp only[lQ,gd,iN,dx,gtx,etx,cx];by_cases hlt:(i:Int) < (o.kids.length:Int)
  ·have hi':i < o.kids.length:=by omega
   have hik:i < o.keys.length:=by omega
   have hlk:(i:Int) < (o.keys.length:Int):=by omega
   simp only[rs,gs,dR,eC,bJ ho 1 rfl,bV ho 1 rfl,lc ho,lk ho,hlt,hlk,Yj];obtain⟨pk',hrk⟩:=NJ ha hik;obtain⟨r1,r2⟩:=hrk w3 (OwnS.keptIn ho);refine aU r1 |>.mpr (aU r2 |>.mpr ?_);refine dO (Lw o.keys[i] w3) rfl ho fun w4 ho=>?_;simp only[ex];obtain⟨v,p,hv,hr⟩:=DD ha hi';refine⟨fun W'=>∃L,Own w W' (L++[obE b o vk vc]),⟨[_],ho.drew⟩,?_⟩;refine⟨_,fun W' _=>bC MY,?_⟩;refine⟨vc,fun W' ⟨L,h⟩=>aL PN (aV (h.mem (e:=obE b o vk vc) (by simp)) (i:=5) rfl),?_⟩;refine⟨_,fun W' ⟨L,h⟩=>(hr W' (OwnS.keptIn h)).1,?_⟩;refine⟨v,fun W' ⟨L,h⟩=>(hr W' (OwnS.keptIn h)).2,?_⟩;refine cI (fun b=>.slice (some ⟨b,0,none⟩) 1 1) [.string ⟨(Pl.rI o.keys[i]).1.toArray⟩] 9 (fun _=>by kernel_rfl) ho.drew fun nb w5 h5=>?_;refine⟨⟨[_,_],h5⟩,?_⟩;rw[Wr.wO o.keys o.kids i hik hi',Yp] at hl2;simp only[Yr] at hl2;refine J9 1 h5 rfl (ys:=[(Pl.rI o.keys[i]).1]) (h5.sl 0 rfl 1 1 1 rfl) (by simp;omega) fun v5 w6 ho=>?_;have ho:=ho.tail;refine⟨⟨[_],ho⟩,?_⟩;have hkw:=Ec hi';refine dS (ih o.kids[i] v (d+1) w6 (by omega) (hv.at_ ho) (by omega) (hkc _ (YH hi'))) ?_;intro v6 w7 hnew;have ho:=ho.join hnew;refine⟨⟨[_,_],ho⟩,?_⟩;refine J9 1 ho rfl (ho.D5 0 rfl) (by simp;omega) fun v7 w8 ho=>?_;have ho:=ho.tail;refine⟨⟨[_],ho⟩,?_⟩;rw[aB (by omega) (by omega)];refine bO ⟨i+1,v7,rfl,by omega,?_⟩ (by simp[n1,RowKit.intOf];omega);rw[Wr.wO o.keys o.kids i hik hi'];have e:[60,60]::(Wr.bP (o.keys.take i) (o.kids.take i)++(Pl.rI o.keys[i]).1::Wr.parts o.kids[i])=[60,60]::Wr.bP (o.keys.take i) (o.kids.take i)++[(Pl.rI o.keys[i]).1]++Wr.parts o.kids[i]:=by simp
   rw[e];exact ho
  ·simp +contextual only[rs,gs,PE,EE,dR,bJ ho 1 rfl,lc ho,hlt,Yi,g_un];refine Ha 0 (y:=[62,62]) ho rfl (by simp;omega) fun v1 w2 ho=>?_;refine hK _ _ ?_;rw[Wr.BM _ _ _ (by omega)] at ho;exact ho.sub (.cons_cons _ (aaB _))
 rw[Yg k7] at hK;simp only[k7,Yi,i_f];rw[ob_v ho 0 rfl];refine dO (SN o vk vc cs w1 (ha.in_ ho) fun h4=>?_) rfl ho fun w2 ho=>?_
 ·have:Vl.long o.k=32767:=by rw[h4];rfl
  omega
 refine cI (fun b=>.slice (some ⟨b,0,none⟩) 1 1) [.string ⟨(Wr.leaf o.k o.n o.s).toArray⟩] 9 (fun _=>by kernel_rfl) ho fun nb w4 h4=>?_;exact hK _ _ ((h4.QT 1 1 1 rfl (by omega) (by omega)).sub (.cons_cons _ (aaB _)))
end
section
open Eng Go.RowKit
theorem Eng.Mem.le.trans {M N O:Mem}(h:M.le N)(k:N.le O):M.le O:=Mem.le_trans h k
theorem lU {l:List (List UInt8)}:∀x∈bB l,x.oneCell'=true:=by
 intro x hx;obtain⟨y,_,rfl⟩:=YN.1 hx;rfl
theorem bT {w:World}{T:TypeId}{sz:Nat}{v:Value}{n:Nat}{xs:List Value}(h:(Ent.urow T sz v n xs).is w):v.oneCell'=true:=by
 rcases (show w.ownsRow 0 T sz v n xs from h).2 with ⟨rfl,_⟩|⟨g,cap,cur,rfl,_⟩<;>rfl
theorem C5 {A:Nat→Prop}{w:World}:∀{os:List Ob} {cs:List Value},OVs A w cs os→∀x∈cs,x.oneCell'=true
|[],cs,h=>by rw[OVs] at h;subst h;intro x hx;cases hx
|o::os,cs,h=>by
  rw[OVs] at h;obtain⟨a,rest,rfl,hl,h1,h2⟩:=h;intro x hx;rcases YZ.1 hx with hx|hx
  ·obtain⟨vk,vc,cs',he,hk⟩:=h1.open;have e:a.toArray=(obC o vk vc).toArray:=by injection he
   have e:a=obC o vk vc:=by simpa using congrArg Array.toList e
   subst e;exact iI o hk.keys.one hk.kids.one x hx
  ·exact C5 h2 x hx
theorem gQ {A:Nat→Prop}{w:World}:∀{os ps:List Ob} {cs ds:List Value},OVs A w cs os→OVs A w ds ps→OVs A w (cs++ds) (os++ps)
|[],ps,cs,ds,h,k=>by rw[OVs] at h;subst h;simpa using k
|o::os,ps,cs,ds,h,k=>by
  rw[OVs] at h;obtain⟨a,rest,rfl,hl,h1,h2⟩:=h;rw[YY,OVs];exact⟨a,rest++ds,by simp,hl,h1,gQ h2 k⟩
theorem I2 {A:Nat→Prop}{w:World}{o:Ob}{vk vc:Value}(h:OV A w (obV o vk vc) o):OVs A w (obC o vk vc) [o]:=by
 rw[OVs];exact⟨obC o vk vc,[],by simp,rfl,h,OVs.nil⟩
theorem ObAt.le {M N:Mem}{o:Ob}{vk vc:Value}{cs:List Value}(hl:M.le N)(h:ObAt M.A M.w o vk vc cs):ObAt N.A N.w o vk vc cs:=⟨h.keys.le hl,h.kids.le hl,h.all.le hl⟩
theorem VP {M:Mem}{k n g:Int}{s:List UInt8}{keys:List (List UInt8)}{kids:List Ob}{vk vc:Value}{cs:List Value}(h1:SlA M.A M.w vk 1 keys.length (bB keys))(h2:SlA M.A M.w vc 6 kids.length cs)(h3:OVs M.A M.w cs kids):ObAt M.A M.w (.mk k n g s keys kids) vk vc cs:=⟨h1,h2,h3⟩
theorem El (M:Mem):OV M.A M.w (obV Vl.ob0 (.slice none 0 0) (.slice none 0 0)) Vl.ob0:=(VP (M:=M) (keys:=[]) (kids:=[]) (SlA.nil _ _ _ _) (SlA.nil _ _ _ _) OVs.nil).ov
theorem OY (o:Ob){vk vc:Value}(hk:vk.oneCell'=true)(hc:vc.oneCell'=true)(w:World):Ret prog 126 #[obV o vk vc] w (fun v w'=>v=obV o vk vc∧Below w.heap.size w w'):=by
 refine aO fun K hK=>Eg ?_;unfold AX dx;refine cY o hk hc (Own.start w) fun b w1 ho=>?_;refine bN ho fun b2 w2 ho=>?_;rw[ob_v ho 1 rfl];refine aQ 0 hk hc ho rfl fun w3 ho=>?_;exact eG (aX (ho.agg 0 rfl dM)) (hK _ _ ⟨rfl,ho.done⟩)
theorem Lf:dN prog 126=true:=by kernel_rfl
abbrev Wd:Value:=.func (.func 126) #[] #[]
theorem Mr (n:Nat):∀(o:Ob) (v:Value) (M:Mem) (w:World),o.wt≤n→o.wt≤100000000000→M.has w→OV M.A M.w v o→RetM prog 125 #[v,Wd] M w (fun v' N=>OV N.A N.w v' o):=by
 induction n with
|zero=>intro o v M w h;have:=o.FN;omega
|succ n ih=>
 intro o v M w hn hw hM hv;obtain⟨vk,vc,cs,rfl,ha⟩:=hv.open;have hww:Ob.wts o.kids≤100000000000:=by cases o;rw[Ob.wt] at hw;simp only[Ob.kids];omega
 have hkt:Pl.tot o.keys≤100000000000:=by cases o;rw[Ob.wt] at hw;simp only[Ob.keys];omega
 have hlk:=Ob.wD o.kids;have hkl:=Pl.dU o.keys;refine cM hM fun K hK=>Dr ?_;unfold qZ iN dx cx;refine cY o ha.keys.one ha.kids.one (OwnS.memS hM) fun b w1 ho=>?_;refine bN ho fun b4 w2 ho=>?_;rw[ob_v ho 1 rfl];refine QJ Lf (aP ho (R:=fun v=>v=obV o vk vc) (OY o ha.keys.one ha.kids.one w2) ?_);rintro _ w3 rfl ho;refine aQ 1 ha.keys.one ha.kids.one ho rfl fun w4 ho=>?_;rw[eC,bV ho 1 rfl];refine dS (Bz vk _ _ w4 (ha.keys.now (ho.hasM 2 rfl)) lU (by omega)) fun vk' w5 hnew=>?_;have ho:=ho.join hnew;have ho:OwnS M.A w w5 [.urow 9 1 vk' o.keys.length (bB o.keys),obE b4 ob0 (.slice none 0 0) (.slice none 0 0),obE b o vk vc,.mem M]:=ho;have hk1:vk'.oneCell'=true:=bT (ho.at_ 0 rfl);rw[eC];refine aW 2 ho rfl (by kernel_rfl) hk1 (show 0+4 < 6 by omega) fun w6 ho=>?_;have ho:OwnS M.A w w6 [.urow 9 1 vk' o.keys.length (bB o.keys),obE b4 ob0 (.slice none 0 0) (.slice none 0 0),obE b o vk' vc,.mem M]:=ho;obtain⟨N,hMN,hkeys,ho⟩:=ho.gP 2 rfl;have ho:OwnS M.A w w6 [obE b4 ob0 (.slice none 0 0) (.slice none 0 0),obE b o vk' vc,.mem N]:=ho;refine join fun J hJ=>?_;have fin:∀(W:World) (N':Mem) (vc':Value) (cs':List Value),OwnS M.A w W [obE b4 ob0 (.slice none 0 0) (.slice none 0 0),obE b o vk' vc',.mem N']→N.le N'→vc'.oneCell'=true→SlA N'.A N'.w vc' 6 o.kids.length cs'→OVs N'.A N'.w cs' o.kids→J [] W:=by
  intro W N' vc' cs' ho hle hc1 h1 h2;refine hJ _ _ fun _=>?_;unfold uZ dx;rw[ob_v ho 1 rfl];refine aQ 0 hk1 hc1 ho rfl fun w7 ho=>?_;refine eG (aX (ho.agg 0 rfl dM)) (hK _ _ N' _ 2 ho rfl (hMN.trans hle) ?_);exact ObAt.ov (⟨hkeys.le hle,h1,h2⟩:ObAt N'.A N'.w o vk' vc' cs')
 have hav:=ha.le hMN;rw[dR,bJ ho 1 rfl];obtain⟨a,cap,rfl,hnil⟩:∃a cap,vc=.slice a o.kids.length cap∧(a=none→o.kids.length=0):=by
  obtain⟨⟨_,a,cap,e,h1,_⟩,_⟩:=ha.kids;exact⟨a,cap,e,h1⟩
 rw[WG Yt];cases a with
|none=>
  simp only[abL,YE,i_f];exact fin _ N _ _ ho N.le_refl rfl hav.kids hav.all
|some p=>
  simp only[abM,YJ,i_t];rw[dR,bJ ho 1 rfl,eT Yt];refine UI (sz:=6) (bytes:=88) Yt (by kernel_rfl) (by omega) (by omega) ho fun g w7 zs hzs ho=>?_;have ho:=ho.toU 6 o.kids.length o.kids.length hzs (Yw _) (by omega);rw[YO (by omega)] at ho;rw[dR,bJ ho 2 rfl,eT Yt];refine loop (fun vs W=>∃(i:Nat) (N':Mem) (cs' zs':List Value),vs=[.int .i64 i]∧i≤o.kids.length∧N.le N'∧OVs N'.A N'.w cs' (o.kids.take i)∧cs'.length=i*6 ∧
    OwnS M.A w W [.urow 25 6 (.slice (some ⟨g,0,none⟩) o.kids.length o.kids.length) o.kids.length (cs'++zs'),obE b4 ob0 (.slice none 0 0) (.slice none 0 0),obE b o vk' (.slice (some p) o.kids.length cap),.mem N']) (fun vs _=>o.kids.length - n0 vs)
   ⟨0,N,[],zs,rfl,by omega,N.le_refl,OVs.nil,rfl,ho⟩ ?_
  clear ho;rintro vs w8 ⟨i,N',cs',zs',rfl,hi,hle,hcs',hl',ho⟩ _;simp only[uQ,gd,rs,iN,dx,cx];have hrl:=(show w8.ownsRow 0 25 6 _ _ (cs'++zs') from ho.at_ 0 rfl).1;rw[Yp,hl'] at hrl;by_cases hlt:(i:Int) < (o.kids.length:Int)
  ·have hi':i < o.kids.length:=by omega
   simp only[hlt,Yj,i_t];obtain⟨x,q,hx,hrx⟩:=DD (hav.le hle) hi';obtain⟨r1,r2⟩:=hrx w8 (ho.hasM 3 rfl);refine aU r1 |>.mpr (aU r2 |>.mpr ?_);obtain⟨xk,xc,xcs,rfl,hxa⟩:=hx.open;refine bN ho fun b7 w9 ho=>?_;refine aQ 0 hxa.keys.one hxa.kids.one ho rfl fun w10 ho=>?_;rw[ob_v ho 0 rfl];have hkw:=Ec hi';refine eD ho 4 rfl (ih _ _ N' w10 (by omega) (by omega) (ho.hasM 4 rfl) hx) fun y N2 w11 hle2 hy ho=>?_;obtain⟨yk,yc,ycs,rfl,hya⟩:=hy.open;have ho:OwnS M.A w w11 [.urow 25 6 (.slice (some ⟨g,0,none⟩) o.kids.length o.kids.length) o.kids.length (cs'++zs'),obE b4 ob0 (.slice none 0 0) (.slice none 0 0),obE b o vk' (.slice (some p) o.kids.length cap),.mem N2]:=ho.tail;refine aU (oV Yt szOb (by omega) (by omega)) |>.mpr ?_;rw[Yo,Yu];refine BX 0 ho rfl (u:=obV o.kids[i] yk yc) (new:=obC o.kids[i] yk yc) rfl szOb (iI _ hya.keys.one hya.kids.one) (by show i*6+6≤_;omega) fun w12 ho=>?_;rw[aB (by omega) (by omega)];refine bO ⟨i+1,N2,cs'++obC o.kids[i] yk yc,zs'.drop 6,rfl,by omega,hle.trans hle2,?_,?_,?_⟩ (by simp[n0,RowKit.intOf];omega)
   ·rw[YL hi'];exact gQ (hcs'.le hle2) (I2 hy)
   ·rw[Yp,hl'];show i*6+6=_;omega
   ·have e:(cs'++zs').take (i*6)++obC o.kids[i] yk yc++(cs'++zs').drop (i*6+(obC o.kids[i] yk yc).length)=cs'++obC o.kids[i] yk yc++zs'.drop 6:=by
     rw[Zf hl',ZM,YP (by rw[hl'];omega),Y6,hl']
     congr 2
     show i*6+6 - i*6=6;omega
    rw[e] at ho;exact ho
  ·have hi':i=o.kids.length:=by omega
   subst hi';simp only[hlt,Yi,i_f];have hz:zs'=[]:=ZO (by omega);subst hz;rw[YQ,YO (Yw _)] at *;rw[dR];refine aW 2 ho rfl (by kernel_rfl) rfl (show 0+5 < 6 by omega) fun w9 ho=>?_;obtain⟨N2,hle2,hrow,ho⟩:=OwnS.gP (L:=[obE b4 ob0 (.slice none 0 0) (.slice none 0 0),obE b o vk' (.slice (some ⟨g,0,none⟩) o.kids.length o.kids.length),.mem N']) ho 2 rfl;exact fin _ N2 _ _ ho (hle.trans hle2) rfl hrow (hcs'.le hle2)
theorem H8 (o:Ob)(v:Value)(M:Mem)(w:World)(hw:o.wt≤100000000000)(hM:M.has w)(hv:OV M.A M.w v o):RetM prog 81 #[v] M w (fun v' N=>OV N.A N.w v' o):=by
 obtain⟨vk,vc,cs,rfl,ha⟩:=hv.open;refine cM hM fun K hK=>F5 ?_;unfold Dp dx cx;refine cY o ha.keys.one ha.kids.one (OwnS.memS hM) fun b w1 ho=>?_;refine bN ho fun b4 w2 ho=>?_;rw[ob_v ho 1 rfl];refine eD ho 2 rfl (Mr o.wt o _ M w2 (Yw _) hw (ho.hasM 2 rfl) hv) fun y N w3 hle hy ho=>?_;obtain⟨yk,yc,ycs,rfl,hya⟩:=hy.open;refine aQ 0 hya.keys.one hya.kids.one ho rfl fun w4 ho=>?_;exact eG (aX (ho.agg 0 rfl dM)) (hK _ _ N _ 2 ho rfl hle hy)
end
section
open Eng
def yD(t3 w)(K:KT):=
 dx (aS 22 1 #[(0,t3)]) w K fun t68 w=>K (.returned t68) w
def uA(t0 w)(K:KT):=
 dx (mBox 25 t0) w K fun t1 w=>JoinX (fun J1=>dx (mFA 25 t1 0) w K fun t8 w=>dx (aA 3 t8) w K fun t9 w=>dx (mEq .eql 3 (.tmp 9) (.const (iN 0)) t9 (iN 0)) w K fun t11 w=>IfX t11 (J1 [(.string ⟨#[110,117,108,108]⟩)] w) (dx (mEq .eql 3 (.tmp 9) (.const (iN 1)) t9 (iN 1)) w K fun t13 w=>IfX t13 (dx (aJ 161 #[(0,(.string ⟨#[102,97,108,115,101]⟩)),(1,(.string ⟨#[116,114,117,101]⟩))]) w K fun t14 w=>dx (mFA 25 t1 1) w K fun t15 w=>dx (aA 2 t15) w K fun t16 w=>dx (mIx 161 t14 t16) w K fun t17 w=>J1 [t17] w) (dx (mEq .eql 3 (.tmp 9) (.const (iN 2)) t9 (iN 2)) w K fun t19 w=>IfX t19 (dx (mFA 25 t1 1) w K fun t21 w=>dx (aA 2 t21) w K fun t22 w=>cx 46 #[t22] w K fun t23 w=>dx (mExt t23 0) w K fun t24 w=>dx (mExt t23 1) w K fun t25 w=>J1 [t24] w) (dx (mEq .eql 3 (.tmp 9) (.const (iN 3)) t9 (iN 3)) w K fun t27 w=>IfX t27 (dx (mFA 25 t1 1) w K fun t29 w=>dx (aA 2 t29) w K fun t30 w=>cx 191 #[t30] w K fun t31 w=>dx (mExt t31 0) w K fun t32 w=>dx (mExt t31 1) w K fun t33 w=>J1 [t32] w) (dx (mEq .eql 3 (.tmp 9) (.const (iN 4)) t9 (iN 4)) w K fun t35 w=>IfX t35 (dx (mFA 25 t1 3) w K fun t37 w=>dx (aA 9 t37) w K fun t38 w=>cx 192 #[t38] w K fun t39 w=>dx (mExt t39 0) w K fun t40 w=>dx (mExt t39 1) w K fun t41 w=>J1 [t40] w) (dx (mEq .eql 3 (.tmp 9) (.const (iN 5)) t9 (iN 5)) w K fun t43 w=>IfX t43 (dx (mFA 25 t1 3) w K fun t45 w=>dx (aA 9 t45) w K fun t46 w=>cx 140 #[t46] w K fun t47 w=>dx (mExt t47 0) w K fun t48 w=>dx (mExt t47 1) w K fun t49 w=>J1 [t48] w) (dx (mEq .eql 3 (.tmp 9) (.const (iN 8)) t9 (iN 8)) w K fun t51 w=>IfX t51 (dx (mFA 25 t1 1) w K fun t53 w=>dx (aA 2 t53) w K fun t54 w=>cx 46 #[t54] w K fun t55 w=>dx (mExt t55 0) w K fun t56 w=>dx (mExt t55 1) w K fun t57 w=>dx (mFA 25 t1 2) w K fun t59 w=>dx (aA 3 t59) w K fun t60 w=>cx 46 #[t60] w K fun t61 w=>dx (mExt t61 0) w K fun t62 w=>dx (mExt t61 1) w K fun t63 w=>dx (aS 22 3 #[(0,t56),(1,t62),(2,(.string ⟨#[82]⟩))]) w K fun t66 w=>K (.returned t66) w) (J1 [(.string ⟨#[]⟩)] w)))))))) (fun vs1 w=>∀_:Sg,yD (vs1.getD 0 undef) w K)
theorem Et (t0:Value)(w:World)(K:Ending→World→Prop):wpX prog 69 [(19,[3])] [] none (aY Tryz.f139) (topQ prog [.tmp 2] K) (aR [t0]) [] w=uA t0 w K:=by kernel_rfl
theorem E6 {t0:Value}{w:World}{K:Ending→World→Prop}(h:uA t0 w K):Calls prog 139 #[t0] w K:=
 aE Tryz.func139 rfl rfl rfl rfl (Eq.mpr (Et t0 w K) h)
def rJ(t2 t9 t40 w)(N3:JT)(K:KT):=
 dx (aA 111 t2) w K fun t61 w=>dx (aA 25 t9) w K fun t62 w=>dx (eO t61 #[t62]) w K fun t63 w=>dx (mUn .not t63) w K fun t64 w=>IfX t64 (K (.returned (.bool false)) w) (dx (mBin .add 3 t40 (iN 1)) w K fun t65 w=>N3 [t65] w)
def pY(t1 t2 t3 t5 t38 t39 t40 w)(N3:JT)(K:KT):=
 dx (mBin .lss 3 t40 t39) w K fun t41 w=>IfX t41 (dx (mIA 23 t38 t40) w K fun t43 w=>dx (aA 25 t43) w K fun t44 w=>dx (aM 25) w K fun t9 w=>dx (aC 25 t9 t44) w K fun _ w=>JoinX (fun J4=>dx (mFA 25 t3 0) w K fun t45 w=>dx (aA 3 t45) w K fun t46 w=>dx (mEq .eql 3 (.tmp 46) (.const (iN 7)) t46 (iN 7)) w K fun t47 w=>IfX t47 (dx (mFA 25 t3 4) w K fun t49 w=>dx (aA 22 t49) w K fun t50 w=>dx (mIA 22 t50 t40) w K fun t52 w=>dx (aA 9 t52) w K fun t53 w=>cx 140 #[t53] w K fun t54 w=>dx (mExt t54 0) w K fun t55 w=>dx (mExt t54 1) w K fun t56 w=>dx (aA 160 t1) w K fun t57 w=>dx (eO t57 #[t55]) w K fun t59 w=>dx (mUn .not t59) w K fun t60 w=>IfX t60 (K (.returned (.bool false)) w) (J4 [] w)) (J4 [] w)) (fun vs4 w=>∀_:Sg,rJ t2 t9 t40 w N3 K)) (dx (aA 160 t1) w K fun t66 w=>dx (mIA 161 t5 (iN 1)) w K fun t67 w=>dx (aA 9 t67) w K fun t68 w=>dx (eO t66 #[t68]) w K fun t69 w=>K (.returned t69) w)
def iH(t1 t2 t3 t5 w)(K:KT):=
 dx (aA 160 t1) w K fun t32 w=>dx (mIA 161 t5 (iN 0)) w K fun t33 w=>dx (aA 9 t33) w K fun t34 w=>dx (eO t32 #[t34]) w K fun t35 w=>dx (mUn .not t35) w K fun t36 w=>IfX t36 (K (.returned (.bool false)) w) (dx (mFA 25 t3 5) w K fun t37 w=>dx (aA 23 t37) w K fun t38 w=>dx (mB .len #[23] 3 #[false] #[t38]) w K fun t39 w=>LoopX [(iN 0)] w (fun vs3 w N3=>∀_:Sg,pY t1 t2 t3 t5 t38 t39 (vs3.getD 0 undef) w N3 K))
def rC(t1 t16 t17 t18 w)(N2:JT)(K:KT):=
 dx (mBin .lss 3 t18 t17) w K fun t19 w=>IfX t19 (dx (mIA 22 t16 t18) w K fun t20 w=>dx (aA 9 t20) w K fun t21 w=>dx (aA 160 t1) w K fun t22 w=>dx (eO t22 #[t21]) w K fun t24 w=>dx (mUn .not t24) w K fun t25 w=>IfX t25 (K (.returned (.bool false)) w) (dx (mBin .add 3 t18 (iN 1)) w K fun t26 w=>N2 [t26] w)) (K (.returned (.bool true)) w)
def lT(t0 t1 t2 w)(K:KT):=
 dx (mBox 25 t0) w K fun t3 w=>dx (aJ 161 #[(0,(.string ⟨#[91]⟩)),(1,(.string ⟨#[93]⟩))]) w K fun t12 w=>dx (aM 161) w K fun t5 w=>dx (aC 161 t5 t12) w K fun _ w=>JoinX (fun J1=>dx (mFA 25 t3 0) w K fun t13 w=>dx (aA 3 t13) w K fun t14 w=>dx (mEq .eql 3 (.tmp 14) (.const (iN 6)) t14 (iN 6)) w K fun t28 w=>IfX t28 (J1 [] w) (dx (mEq .eql 3 (.tmp 14) (.const (iN 7)) t14 (iN 7)) w K fun t30 w=>IfX t30 (dx (aJ 161 #[(0,(.string ⟨#[60,60]⟩)),(1,(.string ⟨#[62,62]⟩))]) w K fun t31 w=>dx (aC 161 t5 t31) w K fun _ w=>J1 [] w) (dx (aA 25 t3) w K fun t15 w=>cx 139 #[t15] w K fun t16 w=>dx (mB .len #[22] 3 #[false] #[t16]) w K fun t17 w=>LoopX [(iN 0)] w (fun vs2 w N2=>∀_:Sg,rC t1 t16 t17 (vs2.getD 0 undef) w N2 K)))) (fun vs1 w=>∀_:Sg,iH t1 t2 t3 t5 w K)
theorem Cg (t0 t1 t2:Value)(w:World)(K:Ending→World→Prop):wpX prog 70 [(13,[]),(22,[])] [(4,[18]),(16,[40])] none (aY Tryz.f138) (topQ prog [.tmp 4] K) (aR [t0,t1,t2]) [] w=lT t0 t1 t2 w K:=by kernel_rfl
theorem Cp {t0 t1 t2:Value}{w:World}{K:Ending→World→Prop}(h:lT t0 t1 t2 w K):Calls prog 138 #[t0,t1,t2] w K:=
 aE Tryz.func138 rfl rfl rfl rfl (Eq.mpr (Cg t0 t1 t2 w K) h)
def A2(t0 t1 w)(K:KT):=
 dx (mBox 160 t0) w K fun t2 w=>dx (aM 111) w K fun t3 w=>dx (IZ (.func 138) #[] #[t2,t3]) w K fun t4 w=>dx (aC 111 t3 t4) w K fun _ w=>dx (aA 111 t3) w K fun t5 w=>dx (aA 25 t1) w K fun t6 w=>dx (eO t5 #[t6]) w K fun t7 w=>K (.returned (.tuple #[])) w
theorem Ei{t0 t1 w K}(h:A2 t0 t1 w K):Calls prog 137 #[t0,t1] w K:=cw Tryz.func137 rfl rfl (by kernel_rfl) h
def D9(t0 w)(K:KT):=
 dx (mBox 25 t0) w K fun t1 w=>dx (IZ (.func 137) #[] #[t1]) w K fun t3 w=>K (.returned t3) w
theorem Gq{t0 w K}(h:D9 t0 w K):Calls prog 90 #[t0] w K:=cw Tryz.func90 rfl rfl (by kernel_rfl) h
def iE (x0:Nat)(K:Ending→World→Prop):=pdM prog [.val (.slice none 0 0)] K [(mkD x0)]
def cJ(t0 t1 w)(K:KT):=
 dx (mBox 22 t0) w K fun t2 w=>RangeX prog none 1 t1 w (fun l1 as1 w R1=>BegX prog l1 w (fun w=>DoX prog (aA 22 t2) w pkR fun t8 w=>DoX prog (aS 22 1 #[(0,(as1.getD 0 undef))]) w pkR fun t10 w=>DoX prog (mB .append #[22,22] 22 #[false,false] #[t8,t10]) w pkR fun t11 w=>DoX prog (aC 22 t2 t11) w pkR fun _ w=>EndX prog l1 none w R1))
 [(none,fun r1 w=>DoX prog (aA 22 t2) w (iE r1 K) fun t12 w=>F1 prog [.val t12] K [(mkD r1)] .returning w)]
theorem jG (t0 t1:Value)(w:World)(K:Ending→World→Prop):wpX prog 13 [] [] none (aY Tryz.f136) (topM prog [.tmp 4] K) (aR [t0,t1]) [] w=cJ t0 t1 w K:=by kernel_rfl
theorem jD {t0 t1:Value}{w:World}{K:Ending→World→Prop}(h:cJ t0 t1 w K):Calls prog 136 #[t0,t1] w K:=
 Lh Tryz.func136 rfl rfl rfl rfl (Eq.mpr (jG t0 t1 w K) h)
def kO(t0 w)(K:KT):=
 cx 136 #[(.slice none 0 0),t0] w K fun t4 w=>K (.returned t4) w
theorem rW{t0 w K}(h:kO t0 w K):Calls prog 89 #[t0] w K:=cw Tryz.func89 rfl rfl (by kernel_rfl) h
def FA(t0 w)(K:KT):=
 dx (mBox 25 t0) w K fun t1 w=>dx (aA 25 t1) w K fun t5 w=>cx 57 #[t5] w K fun t6 w=>dx (mEq .neq 30 (.tmp 7) (.const (iN 0)) t6 (iN 0)) w K fun t8 w=>IfX t8 (K (.returned (.tuple #[(.string ⟨#[]⟩),t6])) w) (dx (mFA 25 t1 0) w K fun t10 w=>dx (aA 3 t10) w K fun t11 w=>dx (mEq .eql 3 (.tmp 11) (.const (iN 9)) t11 (iN 9)) w K fun t12 w=>IfX t12 (K (.returned (.tuple #[(.string ⟨#[]⟩),(iN 10)])) w) (dx (aA 25 t1) w K fun t13 w=>cx 90 #[t13] w K fun t14 w=>cx 89 #[t14] w K fun t15 w=>cx 44 #[t15] w K fun t16 w=>K (.returned (.tuple #[t16,(iN 0)])) w))
theorem Hi{t0 w K}(h:FA t0 w K):Calls prog 50 #[t0] w K:=cw Tryz.func50 rfl rfl (by kernel_rfl) h
end
section
open Eng Go.RowKit
section
variable {w:World}{PK:PKT}{K:VWP}{S:Nat→Prop}{w0:World}
theorem T3 {A B C:List Ent}:(A++(B++C)).Perm (B++(A++C)):=by
 rw[←YD,←YD];exact List.Perm.append_right C Z8
theorem JN {A B M X:List Ent}(h:OwnS S w0 w (A++(B++(M++X)))):OwnS S w0 w (B++(M++(A++X))):=h.perm (T3.trans (T3.append_left _))
theorem L7 {A B M X:List Ent}(h:OwnS S w0 w (B++(M++(A++X)))):OwnS S w0 w (A++(B++(M++X))):=h.perm (T3.trans (T3.append_left _)).symm
theorem Yf {b:Nat}:DoX prog (mIA 161 (.pointer (some ⟨b,0,none⟩)) (.int .i64 0)) w PK K=K (.pointer (some ⟨b,0,none⟩)) w:=aU (by kernel_rfl)
theorem XF {b:Nat}:DoX prog (mIA 161 (.pointer (some ⟨b,0,none⟩)) (.int .i64 1)) w PK K=K (.pointer (some ⟨b,1,none⟩)) w:=aU (by kernel_rfl)
theorem Xm {x y:Value}:DoX prog (mIx 161 (.agg #[x,y]) (.int .i64 0)) w PK K=K x w:=aU (by kernel_rfl)
theorem XY {x y:Value}:DoX prog (mIx 161 (.agg #[x,y]) (.int .i64 1)) w PK K=K y w:=aU (by kernel_rfl)
end
theorem PZ (o:Ob)(v:Value)(d:Nat)(w:World)(ht:Tb w)(hov:OV (InW w) w v o)(hc:Vl.check d o=0)(k6:o.k≠6)(k7:o.k≠7)(k9:o.k≠9) :
  Ret prog 139 #[v] w (fun v' w'=>Own w w' [fE v' (Wr.parts o)]):=by
 obtain⟨vk,vc,cs,rfl,ha⟩:=hov.open;obtain⟨_,huse,_,hfit,hsl,_,_⟩:=BI (Wr.DL hc);refine aO fun K hK=>E6 ?_;unfold uA iN dx cx;refine cY o ha.keys.one ha.kids.one (Own.start w) fun b w1 ho=>?_;rw[Wr.parts_eq,Yg k6,Yg k7] at hK;refine join fun J hJ=>?_;have fin:∀{t:List UInt8} {W:World} {L:List Ent},Own w W L→o.k≠8→t=Wr.leaf o.k o.n o.s→J [.string ⟨t.toArray⟩] W:=by
  rintro t W L ho h8 rfl;refine hJ _ _ fun _=>?_;simp only[yD,gd,dx];rw[Yg h8] at hK;refine cI (fun b=>.slice (some ⟨b,0,none⟩) 1 1) [.string ⟨(Wr.leaf o.k o.n o.s).toArray⟩] 9 (fun _=>by kernel_rfl) ho fun nb w4 h4=>?_;exact hK _ _ ((h4.QT 1 1 1 rfl (by omega) (by omega)).sub (.cons_cons _ (aaB _)))
 rw[cN,ob_k ho 0 rfl];simp only[rs,vI,PB,Cd,ob_n ho 0 rfl,ob_s ho 0 rfl];by_cases k0:o.k=0
 ·simp only[k0,Yj,i_t];exact fin (t:=Wr.nul) ho (by omega) (by simp[Wr.leaf,k0])
 by_cases k1:o.k=1
 ·simp only[k1,Int.reduceEq,Yj,Yi,i_t,i_f];have hf:0≤o.n∧o.n≤1:=by simpa[Vl.fits,k1] using hfit
  have hb:∀{PK:PKT} {K:VWP},DoX prog (aJ 161 #[(0,(.string ⟨#[102,97,108,115,101]⟩)),(1,(.string ⟨#[116,114,117,101]⟩))]) w1 PK K=K (.agg #[.string ⟨Wr.fal.toArray⟩,.string ⟨Wr.tru.toArray⟩]) w1:=aU (by kernel_rfl);rw[hb,ob_n ho 0 rfl];rcases (show o.n=0∨o.n=1 by omega) with hn|hn
  ·skip
   rw[hn,Xm];exact fin ho (by omega) (by simp[Wr.leaf,k1,hn])
  ·rw[hn,XY];exact fin ho (by omega) (by simp[Wr.leaf,k1,hn])
 by_cases k2:o.k=2
 ·simp only[k2,Int.reduceEq,Yj,Yi,i_t,i_f];refine dO (DA o.n w1 (ht.own ho)) rfl ho fun w2 ho=>?_;simp only[ex];exact fin ho (by omega) (by simp[Wr.leaf,k2,Wr.num])
 by_cases k3:o.k=3
 ·simp only[k3,Int.reduceEq,Yj,Yi,i_t,i_f];refine dO (Qd o.n w1) rfl ho fun w2 ho=>?_;simp only[ex];exact fin ho (by omega) (by simp[Wr.leaf,k3])
 by_cases k4:o.k=4
 ·simp only[k4,Int.reduceEq,Yj,Yi,i_t,i_f];have hl:Vl.long o.k=32767:=by rw[k4];rfl
  refine dO (Tx o.s w1 (by omega)) rfl ho fun w2 ho=>?_;simp only[ex];exact fin ho (by omega) (by simp[Wr.leaf,k4])
 by_cases k5:o.k=5
 ·simp only[k5,Int.reduceEq,Yj,Yi,i_t,i_f];refine dO (Le o.s w1) rfl ho fun w2 ho=>?_;simp only[ex];exact fin ho (by omega) (by simp[Wr.leaf,k5])
 have k8:o.k=8:=by
  unfold Vl.eA Vl.used at huse;simp only[k0,k1,k2,k3,k4,k5,k6,k7,k9,or_self,if_false] at huse;by_cases h:o.k=8
  ·exact h
  ·simp[h] at huse
 rw[Yh k8] at hK;simp only[k8,Int.reduceEq,Yj,Yi,i_t,i_f];refine dO (DA o.n w1 (ht.own ho)) rfl ho fun w2 ho=>?_;simp only[ex,ob_g ho 0 rfl];refine dO (DA o.g w2 (ht.own ho)) rfl ho fun w3 ho=>?_;simp only[ex];refine cI (fun b=>.slice (some ⟨b,0,none⟩) 3 3) [.string ⟨(Wr.num o.n).toArray⟩,.string ⟨(Wr.num o.g).toArray⟩,.string ⟨#[82]⟩] 9 (fun _=>by kernel_rfl) ho fun nb w4 h4=>?_;exact hK _ _ ((h4.QT 1 3 3 rfl (by omega) (by omega)).sub (.cons_cons _ (aaB _)))
end
section
open Eng Go.RowKit
def yldE (b lb:Nat):Ent:=.cells b [.func (.yield lb) #[] #[]] 160
def telV (b1 b2:Nat):Value:=.func (.func 138) #[] #[.pointer (some ⟨b1,0,none⟩),.pointer (some ⟨b2,0,none⟩)]
def telE (b1 b2:Nat):Ent:=.cells b2 [telV b1 b2] 111
def endE (b:Nat)(x y:List UInt8):Ent:=.cells b [.string ⟨x.toArray⟩,.string ⟨y.toArray⟩] 161
theorem nFs:dX prog 160=true:=by kernel_rfl
theorem nFo:dX prog 111=true:=by kernel_rfl
theorem sz2:(Tryz.prog.info? 161).map (·.size)=some 2:=by kernel_rfl
theorem JD:dN prog 138=true:=by kernel_rfl
def nF (o:Ob)(i:Nat):List (List UInt8):=if o.k=7 then Wr.bP (o.keys.take i) (o.kids.take i) else Wr.dG (o.kids.take i)
theorem SD {ps:List (List UInt8)}{j:Nat}{x:Value}(h:(bB ps)[j]?=some x):∃y,ps[j]?=some y∧x=.string ⟨y.toArray⟩:=by
 unfold bB at h;rw[List.getElem?_map] at h;cases hy:ps[j]? with
|none=>rw[hy] at h;cases h
|some y=>rw[hy] at h;exact⟨y,rfl,by simpa[strV] using h.symm⟩
theorem RU (o:Ob)(i:Nat):∃t,nF o o.kids.length=nF o i++t:=by
 unfold nF;split
 ·rw[Wr.BM _ _ _ (.inr (Yw _))];exact⟨_,Wr.FX o.keys o.kids i⟩
 ·rw[Ze];exact⟨Wr.dG (o.kids.drop i),by rw[←Wr.BP,Zc]⟩
theorem T5 (A:Nat→Prop)(wb:World)(S:Nat→Prop)(w0:World)(L0:Loop)(lb df b1 b2:Nat)(R:Nat→List Ent→Prop)(vs:List Value)(Kf:World→Prop)
  (hI:∀(L:List Ent) (W:World),OwnS S w0 W L→Tb W∧Kept A wb W) (hA:∀(L:List Ent) (W:World),OwnS S w0 W L→∀b,A b→b < W.heap.size)
  (hy:∀(k:Nat) (v:Value) (M X:List Ent) (W:World),vs[k]?=some v→R k M→OwnS S w0 W (sO L0 lb df++(M++X)) →
   Yld prog lb [v] W (fun r W'=>(r=.bool true∧∃M',R (k+1) M'∧OwnS S w0 W' (sO L0 lb df++(M'++X)))∨(r=.bool false∧Kf W'))) (n:Nat) :
  ∀(o:Ob) (v:Value) (d:Nat) (M X:List Ent) (k:Nat) (w1:World) (K:Ending→World→Prop),o.wt≤n→OV A wb v o→o.wt≤100000000→Vl.check d o=0→1≤d→o.k≠9 →
   yldE b1 lb∈X→telE b1 b2∈X→OwnS S w0 w1 (sO L0 lb df++(M++X))→R k M→(∀(j:Nat) (x:List UInt8),(Wr.parts o)[j]?=some x→vs[k+j]?=some (.string ⟨x.toArray⟩)) →
   (∀(M':List Ent) (W:World),R (k+(Wr.parts o).length) M'→OwnS S w0 W (sO L0 lb df++(M'++X))→K (.returned (.bool true)) W)→(∀W,Kf W→K (.returned (.bool false)) W) →
   Calls prog 138 #[v,.pointer (some ⟨b1,0,none⟩),.pointer (some ⟨b2,0,none⟩)] w1 K:=by
 induction n with
|zero=>intro o v d M X k w1 K h;have:=o.FN;omega
|succ n ih=>
 intro o v d M X k w1 K hn hov hb hc hd k9 hX1 hX2 ho hR hseg hK hKf;obtain⟨vk,vc,cs,rfl,ha⟩:=hov.open;obtain⟨hd24,_,_,_,hsl,hkl,hform⟩:=BI (Wr.DL hc);have hkc:=Wr.Jl hc
 -- the cells of the closure
 have c1:∀{A' M':List Ent} {W:World},OwnS S w0 W (A'++(sO L0 lb df++(M'++X)))→∀{PK:PKT} {K:VWP},DoX prog (aA 160 (.pointer (some ⟨b1,0,none⟩))) W PK K=K (.func (.yield lb) #[] #[]) W:=fun h=>bE nFs (aV (h.mem (e:=yldE b1 lb) (by simp[hX1])) (i:=0) rfl);have c2:∀{A' M':List Ent} {W:World},OwnS S w0 W (A'++(sO L0 lb df++(M'++X)))→∀{PK:PKT} {K:VWP},DoX prog (aA 111 (.pointer (some ⟨b2,0,none⟩))) W PK K=K (telV b1 b2) W:=fun h=>bE nFo (aV (h.mem (e:=telE b1 b2) (by simp[hX2])) (i:=0) rfl)
 -- one piece is handed out
 have give:∀(A' M':List Ent) (j:Nat) (x:List UInt8) (W:World) (PK:PKT) (K':VWP),(Wr.parts o)[j]?=some x→R (k+j) M'→OwnS S w0 W (A'++(sO L0 lb df++(M'++X))) →
   (∀M2 W2,R (k+j+1) M2→OwnS S w0 W2 (A'++(sO L0 lb df++(M2++X)))→K' (.bool true) W2)→(∀W2,Kf W2→K' (.bool false) W2) →
   DoX prog (eO (.func (.yield lb) #[] #[]) #[.string ⟨x.toArray⟩]) W PK K':=by
  intro A' M' j x W PK K' hx hR ho h1 h2;refine XP (hy (k+j) _ M' (A'++X) W (hseg j x hx) hR (JN ho)) ?_;rintro r W2 (⟨rfl,M2,hR2,ho2⟩|⟨rfl,hk⟩)
  ·exact h1 M2 W2 hR2 (L7 ho2)
  ·exact h2 W2 hk
 refine Cp ?_;unfold lT iN dx cx;refine cY o ha.keys.one ha.kids.one ho fun b3 w2 ho=>?_;have mb:∀{x y:List UInt8} {W:World} {PK:PKT} {K:VWP},DoX prog (aJ 161 #[(0,.string ⟨x.toArray⟩),(1,.string ⟨y.toArray⟩)]) W PK K=K (.agg #[.string ⟨x.toArray⟩,.string ⟨y.toArray⟩]) W:=aU (by kernel_rfl);rw[mb (x:=[91]) (y:=[93])];refine cI (fun b=>.pointer (some ⟨b,0,none⟩)) [.string ⟨#[]⟩,.string ⟨#[]⟩] 161 (fun _=>by kernel_rfl) ho fun b5 w3 ho=>?_;refine HE 0 ho rfl (new:=[.string ⟨([91]:List UInt8).toArray⟩,.string ⟨([93]:List UInt8).toArray⟩]) sz2 (by simp;exact⟨rfl,rfl⟩) rfl fun w4 ho=>?_;have ho:OwnS S w0 w4 ([endE b5 [91] [93],obE b3 o vk vc]++(sO L0 lb df++(M++X))):=ho;refine join fun J hJ=>?_
 -- behind the choice of the brackets
 have main:∀(x y:List UInt8) (W:World),OwnS S w0 W ([endE b5 x y,obE b3 o vk vc]++(sO L0 lb df++(M++X)))→(o.k=6∨o.k=7)→Wr.parts o=[x]++(nF o o.kids.length++[y]) →
   iH (.pointer (some ⟨b1,0,none⟩)) (.pointer (some ⟨b2,0,none⟩)) (.pointer (some ⟨b3,0,none⟩)) (.pointer (some ⟨b5,0,none⟩)) W K:=by
  intro x y W ho h67 hp;unfold iH iN dx;have le0:∀{A':List Ent} {W:World},OwnS S w0 W (endE b5 x y::A')→∀{PK:PKT} {K:VWP},DoX prog (aA 9 (.pointer (some ⟨b5,0,none⟩))) W PK K=K (.string ⟨x.toArray⟩) W:=fun h=>bE qQ (h.cell 0 rfl 0 rfl);have le1:∀{A':List Ent} {W:World},OwnS S w0 W (endE b5 x y::A')→∀{PK:PKT} {K:VWP},DoX prog (aA 9 (.pointer (some ⟨b5,1,none⟩))) W PK K=K (.string ⟨y.toArray⟩) W:=fun h=>bE qQ (h.cell 0 rfl 1 rfl);rw[c1 ho,Yf,le0 ho];refine give [endE b5 x y,obE b3 o vk vc] M 0 x W _ _ (by rw[hp];rfl) hR ho ?_ (fun W2 hk=>by rw[Ev,YJ,i_t];exact hKf W2 hk);intro M2 W2 hR2 ho;rw[Ev,YE,i_f,dR,bJ ho 1 rfl];have lc:∀{W:World} {L:List Ent},OwnS S w0 W L→∀{PK:PKT} {K:VWP},DoX prog (mB .len #[23] 3 #[false] #[vc]) W PK K=K (.int .i64 (o.kids.length:Int)) W:=fun ho=>bY Yt (ha.kept (hI _ _ ho).2).kids.1;rw[lc ho];have hmem:∀(i q:Nat) (z:List UInt8),(nF o i)[q]?=some z→(Wr.parts o)[1+q]?=some z:=by
   intro i q z hz;obtain⟨t,ht⟩:=RU o i;rw[hp,Z2 (by simp),acQ,abP,ht,YD,Z9 (Yy.1 hz).1];exact hz
  refine loop (fun vs' w'=>∃(i:Nat) (M':List Ent),vs'=[.int .i64 i]∧i≤o.kids.length∧R (k+1+(nF o i).length) M'∧OwnS S w0 w' ([endE b5 x y,obE b3 o vk vc]++(sO L0 lb df++(M'++X)))) (fun vs' _=>o.kids.length - n0 vs')
   ⟨0,M2,rfl,by omega,by simpa[nF,Wr.bP,Wr.dG] using hR2,ho⟩ ?_
  rintro vs' w5 ⟨i,M3,rfl,hi,hR3,ho⟩ _;simp only[pY,gd,rs,iN,dx,cx];by_cases hlt:(i:Int) < (o.kids.length:Int)
  ·have hi':i < o.kids.length:=by omega
   simp only[hlt,Yj,i_t];obtain⟨v,p,hv,hr⟩:=DD ha hi';obtain⟨r1,r2⟩:=hr w5 (hI _ _ ho).2;refine aU r1 |>.mpr (aU r2 |>.mpr ?_);obtain⟨vk',vc',cs',rfl,hkid⟩:=hv.open;refine bN ho fun b9 w6 ho=>?_;refine aQ 0 hkid.keys.one hkid.kids.one ho rfl fun w7 ho=>?_;have ho:OwnS S w0 w7 ([obE b9 o.kids[i] vk' vc',endE b5 x y,obE b3 o vk vc]++(sO L0 lb df++(M3++X))):=ho;refine join fun J2 hJ2=>?_;have hkw:=Ec hi'
   -- the kid,behind its key
   have kid:∀(m:Nat) (M4:List Ent) (W:World),(nF o (i+1)).length=m+(Wr.parts o.kids[i]).length→(∀(j:Nat) (z:List UInt8),(Wr.parts o.kids[i])[j]?=some z→(Wr.parts o)[1+m+j]?=some z)→R (k+1+m) M4 →
     OwnS S w0 W ([obE b9 o.kids[i] vk' vc',endE b5 x y,obE b3 o vk vc]++(sO L0 lb df++(M4++X)))→J2 [] W:=by
    intro m M4 W hm hsub hR4 ho;refine hJ2 _ _ fun _=>?_;unfold rJ iN dx;rw[c2 ho,ob_v ho 0 rfl];refine QJ JD ?_;refine Gg (ih o.kids[i] _ (d+1) M4 ([obE b9 o.kids[i] vk' vc',endE b5 x y,obE b3 o vk vc]++X) (k+1+m) W
     (fun e w'=>(e=.returned (.bool true)∧∃M',R (k+1+m+(Wr.parts o.kids[i]).length) M'∧OwnS S w0 w' (sO L0 lb df++(M'++([obE b9 o.kids[i] vk' vc',endE b5 x y,obE b3 o vk vc]++X))))∨(e=.returned (.bool false)∧Kf w'))
     (by omega) hkid.ov (by omega) (hkc _ (YH hi')) (by omega) ?_ (by simp[hX1]) (by simp[hX2]) (JN ho) hR4 ?_ (fun M' W' h1 h2=>.inl ⟨rfl,M',h1,h2⟩) (fun W' h=>.inr ⟨rfl,h⟩)) ?_
    ·intro h9;have:=(BI (Wr.DL (hkc _ (YH hi')))).2.2.1;exact this ⟨h9,by omega⟩
    ·intro j z hz;rw[show k+1+m+j=k+(1+m+j) by omega];exact hseg _ z (hsub j z hz)
    ·rintro e w8 (⟨rfl,M5,hR5,ho5⟩|⟨rfl,hk⟩)
     ·simp only[Cont];rw[Ev,YE,i_f,qD,aB (by omega) (by omega)];refine bO ⟨i+1,M5,rfl,by omega,?_,(L7 ho5).tail⟩ (by simp[n0,RowKit.intOf];omega);rw[hm,←Zr];exact hR5
     ·simp only[Cont];rw[Ev,YJ,i_t];exact hKf w8 hk
   rw[cN,ob_k ho 2 rfl];simp only[rs];by_cases k7:o.k=7
   ·have hle:o.keys.length=o.kids.length:=by
     have hf:=hform;simp only[Vl.form,k7,true_or,Yj,YE,ZN,Ys] at hf;have:=hf.2;simp only[Vl.rising,Ys,Yx] at this;exact this.1
    have hik:i < o.keys.length:=by omega
    have hs:nF o (i+1)=nF o i++(Pl.rI o.keys[i]).1::Wr.parts o.kids[i]:=by
     unfold nF;rw[Yh k7,Yh k7];exact Wr.wO o.keys o.kids i hik hi'
    simp only[k7,Yj,i_t,eC,bV ho 2 rfl];obtain⟨pk',hrk⟩:=NJ ha hik;obtain⟨q1,q2⟩:=hrk w7 (hI _ _ ho).2;refine aU q1 |>.mpr (aU q2 |>.mpr ?_);refine dS (Le o.keys[i] w7) ?_;rintro v8 w8 ⟨rfl,hb8⟩;have ho:=ho.grow hb8;simp only[ex];rw[c1 ho];refine give [obE b9 o.kids[i] vk' vc',endE b5 x y,obE b3 o vk vc] M3 (1+(nF o i).length) (Pl.rI o.keys[i]).1 w8 _ _ (hmem (i+1) _ _ ?_) (by rw[←Zr];exact hR3) ho (fun M4 W4 hR4 ho4=>?_) (fun W hk=>?_)
    ·rw[hs,Z2 (Yw _)];simp
    ·rw[Ev,YE,i_f];refine kid ((nF o i).length+1) M4 W4 ?_ ?_ ?_ ho4
     ·rw[hs];simp;omega
     ·intro j z hz;rw[Zr];refine hmem (i+1) _ z ?_;rw[hs,Z2 (by omega),show (nF o i).length+1+j - (nF o i).length=j+1 by omega,abC];exact hz
     ·rw[show k+1+((nF o i).length+1)=k+(1+(nF o i).length)+1 by omega];exact hR4
    ·rw[Ev,YJ,i_t];exact hKf W hk
   ·have hs:nF o (i+1)=nF o i++Wr.parts o.kids[i]:=by
     unfold nF;rw[Yg k7,Yg k7];exact Wr.CW o.kids i hi'
    simp only[k7,Yi,i_f];refine kid (nF o i).length M3 w7 (by rw[hs,Yp]) ?_ hR3 ho;intro j z hz;rw[Zr];refine hmem (i+1) _ z ?_;rw[hs,Z2 (by omega),abP];exact hz
  ·simp only[hlt,Yi,i_f];have hie:i=o.kids.length:=by omega
   subst hie;rw[c1 ho,XF,le1 ho];refine give [endE b5 x y,obE b3 o vk vc] M3 (1+(nF o o.kids.length).length) y w5 _ _ ?_ (by rw[←Zr];exact hR3) ho (fun M4 W4 hR4 ho4=>hK M4 W4 ?_ ?_) (fun W2 hk=>hKf W2 hk)
   ·rw[hp,Z2 (by simp),Z2 (by simp)];simp
   ·rw[hp];simp only[Yp,Yr,YG];have e:k+(0+1+((nF o o.kids.length).length+(0+1)))=k+(1+(nF o o.kids.length).length)+1:=by omega
    rw[e];exact hR4
   ·exact ho4.tail.tail
 rw[cN,ob_k ho 1 rfl];simp only[rs];by_cases k6:o.k=6
 ·simp only[k6,Yj,i_t];refine hJ _ _ fun _=>main [91] [93] w4 ho (.inl k6) ?_;rw[Wr.parts_eq,Yg (by omega),Yh k6,nF,Yg (by omega),Ze];rfl
 by_cases k7:o.k=7
 ·simp only[k7,Int.reduceEq,Yj,Yi,i_t,i_f];rw[mb (x:=[60,60]) (y:=[62,62])];refine HE 0 ho rfl (new:=[.string ⟨([60,60]:List UInt8).toArray⟩,.string ⟨([62,62]:List UInt8).toArray⟩]) sz2 (by simp;exact⟨rfl,rfl⟩) rfl fun w5 ho=>?_;refine hJ _ _ fun _=>main [60,60] [62,62] w5 ho (.inr k7) ?_;rw[Wr.parts_eq,Yg (by omega),Yg (by omega),Yh k7,nF,Yh k7,Wr.BM _ _ _ (.inr (Yw _))];rfl
 simp only[k6,k7,Yi,i_f];rw[ob_v ho 1 rfl];refine dS (PZ o _ d w4 (hI _ _ ho).1 (OV.mono (hA _ _ ho) _ _ (ha.kept (hI _ _ ho).2).ov) hc k6 k7 k9) ?_;intro v5 w5 hnew;have ho:=ho.join hnew;have ho:OwnS S w0 w5 ([fE v5 (Wr.parts o),endE b5 [91] [93],obE b3 o vk vc]++(sO L0 lb df++(M++X))):=ho;have hpos:0 < (Wr.parts o).length:=by rw[Wr.parts_eq,Yg k6,Yg k7];split<;>simp
 have hpl:=Wr.Dy o;obtain⟨g,off,cap,rfl,_⟩:=jB (ho.D5 0 rfl) hpos;rw[show DoX prog (mB .len #[22] 3 #[false] #[.slice (some ⟨g,off,none⟩) (Wr.parts o).length cap]) w5=DoX prog (mB .len #[22] 3 #[false] #[.slice (some ⟨g,off,none⟩) (Wr.parts o).length cap]) w5 from rfl,bY Yn (ho.D5 0 rfl)];refine loop (fun vs' w'=>∃(i:Nat) (M':List Ent),vs'=[.int .i64 i]∧i≤(Wr.parts o).length∧R (k+i) M'∧OwnS S w0 w' ([fE (.slice (some ⟨g,off,none⟩) (Wr.parts o).length cap) (Wr.parts o),endE b5 [91] [93],obE b3 o vk vc]++(sO L0 lb df++(M'++X))))
  (fun vs' _=>(Wr.parts o).length - n0 vs') ⟨0,M,rfl,by omega,hR,ho⟩ ?_
 rintro vs' w6 ⟨i,M3,rfl,hi,hR3,ho⟩ _;simp only[rC,gd,rs,iN,dx];by_cases hlt:(i:Int) < ((Wr.parts o).length:Int)
 ·have hi':i < (Wr.parts o).length:=by omega
  simp only[hlt,Yj,i_t];obtain⟨g',off',cap',he,hcl⟩:=jB (ho.D5 0 rfl) hpos;cases he;refine aU (oV Yn (show _=some 1 by kernel_rfl) (by omega) (by omega)) |>.mpr ?_;have hq:=hcl i _ (cD hi');rw[Yo,Zk,bE qQ hq,c1 ho];refine give [fE (.slice (some ⟨g,off,none⟩) (Wr.parts o).length cap) (Wr.parts o),endE b5 [91] [93],obE b3 o vk vc] M3 i (Wr.parts o)[i] w6 _ _ (YB hi') hR3 ho (fun M4 W4 hR4 ho4=>?_) (fun W hk=>?_)
  ·rw[Ev,YE,i_f,aB (by omega) (by omega)];exact bO ⟨i+1,M4,rfl,by omega,hR4,ho4⟩ (by simp[n0,RowKit.intOf];omega)
  ·rw[Ev,YJ,i_t];exact hKf W hk
 ·simp only[hlt,Yi,i_f];have hie:i=(Wr.parts o).length:=by omega
  subst hie;exact hK M3 w6 hR3 ho.tail.tail.tail
end
section
open Eng Go.RowKit
def Obw (wb:World)(W:World):Prop:=Tb W∧Kept (InW wb) wb W∧wb.heap.size≤W.heap.size
theorem Qm (wb:World)(o:Ob)(vk vc:Value)(cs:List Value)(b:Nat)(ha:ObAt (InW wb) wb o vk vc cs)(hb:o.wt≤100000000)(hc:Vl.check 1 o=0)(k9:o.k≠9) :
  Seq prog (Obw wb) 137 #[] #[.pointer (some ⟨b,0,none⟩)] [obE b o vk vc] (bB (Wr.parts o)):=by
 intro S w0 w1 L0 lb df M0 R K hI ho hR hy hend;show Calls prog 137 #[.func (.yield lb) #[] #[],.pointer (some ⟨b,0,none⟩)] w1 K;refine Ei ?_;unfold A2 dx;refine cI (fun b=>.pointer (some ⟨b,0,none⟩)) [.func (.yield lb) #[] #[]] 160 (fun _=>by kernel_rfl) ho fun b1 w2 ho=>?_;refine cI (fun b=>.pointer (some ⟨b,0,none⟩)) [.nilFunc] 111 (fun _=>by kernel_rfl) ho fun b2 w3 ho=>?_;rw[Er];refine aW 0 ho rfl (by kernel_rfl) rfl (by simp) fun w4 ho=>?_;have ho:OwnS S w0 w4 ([telE b1 b2,yldE b1 lb]++(sO L0 lb df++(M0++[obE b o vk vc]))):=ho;rw[bE nFo (ho.cell 0 rfl 0 rfl),l_at ((show (Ent.cells b (obC o vk vc) 25).is w4 from ho.mem (by simp[obE])) |> fun h=>AtV.agg dM rfl fun j v hj=>by simpa using aV h hj)];refine QJ JD ?_;refine Gg (T5 (InW wb) wb S w0 L0 lb df b1 b2 R (bB (Wr.parts o)) (fun W=>K (.returned (.tuple #[])) W) (fun L W h=>⟨(hI L W h).1,(hI L W h).2.1⟩) (fun L W h b hb=>Y4 hb (hI L W h).2.2) hy o.wt o _ 1 M0 ([telE b1 b2,yldE b1 lb]++[obE b o vk vc]) 0 w4
  (fun e w'=>(e=.returned (.bool true)∧∃M',R (0+(Wr.parts o).length) M'∧OwnS S w0 w' (sO L0 lb df++(M'++([telE b1 b2,yldE b1 lb]++[obE b o vk vc]))))∨(e=.returned (.bool false)∧K (.returned (.tuple #[])) w'))
  (Yw _) ha.ov hb hc (by omega) k9 (by simp) (by simp) (JN ho) hR ?_ (fun M' W' h1 h2=>.inl ⟨rfl,M',h1,h2⟩) (fun W' h=>.inr ⟨rfl,h⟩)) ?_
 ·intro j x hx;rw[Yu];unfold bB;rw[List.getElem?_map,hx];rfl
 ·rintro e w8 (⟨rfl,M5,hR5,ho5⟩|⟨rfl,hk⟩)
  ·simp only[Cont];refine hend M5 _ w8 ?_ ho5;rw[Bf,←Yu (Wr.parts o).length];exact hR5
  ·exact hk
def slc7 (b:Nat)(v:Value):Ent:=.cells b [v] 22
theorem Lr {I:World→Prop}{f:Nat}{fa ca:Array Value}{F:List Ent}{ns:List (List UInt8)}(hseq:Seq prog I f fa ca F (bB ns))(hp:dN prog f=true)(hl:ns.length≤100000000000)
  {S:Nat→Prop} {w0 w:World} {L:List Ent} (hI:∀(L:List Ent) (W:World),OwnS S w0 W L→I W) (ho:OwnS S w0 w (F++L)) :
  Ret prog 89 #[.func (.func f) fa ca] w (fun v w'=>OwnS S w0 w' (fE v ns::L)):=by
 refine aO fun K hK=>rW ?_;unfold kO cx;refine Gg (jD (K:=RetK fun v w'=>OwnS S w0 w' (fE v ns::L)) ?_) (fun e w' ⟨v,he,hv⟩=>by subst he;exact hK _ _ hv);unfold cJ dx;have ho:=ho.uG 9 1;refine cI (fun b=>.pointer (some ⟨b,0,none⟩)) [.slice none 0 0] 22 (fun _=>by kernel_rfl) ho fun b2 w1 ho=>?_;refine range ho hp fun L0 df lb w2 ho hy=>?_;refine hseq S w0 w2 L0 lb df (slc7 b2 (.slice none 0 0)::fE (.slice none 0 0) []::L) (fun k M=>∃v,M=slc7 b2 v::fE v (ns.take k)::L) _ hI ?_ ⟨.slice none 0 0,by rw[Z7]⟩ ?_ ?_
 ·refine ho.perm ?_;show List.Perm (_::_::_::_::(F++L)) (_::_::_::_::(L++F));exact (List.Perm.cons _ (List.Perm.cons _ (List.Perm.cons _ (List.Perm.cons _ Z8))))
 ·rintro k v M X W hk ⟨u,rfl⟩ ho;obtain⟨x,hx,rfl⟩:=SD hk;have hkl:k < ns.length:=(Yy.1 hx).1;have ho:OwnS S w0 W (.obj lb (lp L0 .ready none)::.obj df (.deferred (some []))::slc7 b2 u::fE u (ns.take k)::(L++X)):=ho;refine hy _ W _ (ho.at_ 0 rfl) rfl ?_;refine XJ 0 ho rfl fun W3 ho=>?_;rw[bE Md (ho.cell 2 rfl 0 rfl)];refine Ha 3 ho rfl (by rw[YC];omega) fun v' W4 ho=>?_;refine aW 2 ho rfl (by kernel_rfl) (VR (ho.D5 3 rfl)) (by simp) fun W5 ho=>?_;refine Xv 0 ho rfl fun W6 ho=>?_;refine .inl ⟨rfl,slc7 b2 v'::fE v' (ns.take (k+1))::L,⟨v',rfl⟩,?_⟩;have e:ns.take (k+1)=ns.take k++[x]:=by
   rw[YL hkl,(Yy.1 hx).2]
  rw[e];exact ho
 ·rintro M X W ⟨u,rfl⟩ ho;rw[Bf,Ze] at ho;refine⟨_,.ready,none,_,rfl,(by intro h;cases h),ho.at_ 0 rfl,Yq.2 (.inl rfl),?_⟩;have hp':OwnS S w0 (putO W lb (lp L0 .exhausted none)) (.obj lb (lp L0 .exhausted none)::.obj df (.deferred (some []))::slc7 b2 u::fE u ns::(L++X)):=BZ (o':=lp L0 .exhausted none) ho 0 rfl;have hp':OwnS S w0 (putO W lb (lp L0 .exhausted none)) (.obj df (.deferred (some []))::slc7 b2 u::fE u ns::(L++X)):=hp'.tail;rw[bE Md (hp'.cell 1 rfl 0 rfl)];refine WO 0 hp' rfl fun W4 ho=>?_;show RetK (fun v w'=>OwnS S w0 w' (fE v ns::L)) (.returned u) W4;refine retK ?_;exact ho.tail.tail.sub (.cons_cons _ (List.sublist_append_left _ _))
def txtV (x:List UInt8×Int):Value:=.tuple #[.string ⟨x.1.toArray⟩,.int .i64 x.2]
theorem Mh:dN prog 137=true:=by kernel_rfl
theorem fM {xo yo:Operand}{a b:Int}{w:World}{PK:PKT}{K:VWP}:DoX prog (mEq .neq 30 xo yo (.int .i64 a) (.int .i64 b)) w PK K=K (.bool (decide (a≠b))) w:=Vg
theorem Pk (o:Ob)(v:Value)(w:World)(ht:Tb w)(hov:OV (InW w) w v o)(hb:o.wt≤100000000):Ret prog 50 #[v] w (fun v w'=>v=txtV (Wr.text o)∧Below w.heap.size w w'):=by
 obtain⟨vk,vc,cs,rfl,ha⟩:=hov.open;refine aO fun K hK=>Hi ?_;unfold FA iN dx cx;refine cY o ha.keys.one ha.kids.one (Own.start w) fun b w1 ho=>?_;rw[ob_v ho 0 rfl];refine dO (pU o _ w1 (ha.in_ ho).ov (by omega)) rfl ho fun w2 ho=>?_;rw[fM];by_cases hc:Vl.check 1 o=0
 case neg=>
  simp only[ne_eq,hc,Yz,Yj,i_t];refine hK _ _ ⟨?_,ho.done⟩;simp[Wr.text,hc,txtV]
 simp only[hc,ne_eq,not_true,Yi,i_f];rw[cN,ob_k ho 0 rfl];simp only[rs];by_cases k9:o.k=9
 ·simp only[k9,Yj,i_t];refine hK _ _ ⟨?_,ho.done⟩;simp[Wr.text,hc,k9,txtV]
 simp only[k9,Yi,i_f];rw[ob_v ho 0 rfl];have ha2:=ha.own ho;refine Gg (Gq (K:=RetK fun v w'=>∃b,v=.func (.func 137) #[] #[.pointer (some ⟨b,0,none⟩)]∧Own w w' [obE b o vk vc]) ?_) ?_
 ·unfold D9 dx;refine cY o ha.keys.one ha.kids.one ho fun b' w3 ho=>?_;rw[Er];exact⟨_,rfl,b',rfl,ho.sub (.cons_cons _ (aaB _))⟩
 ·rintro e w3 ⟨_,rfl,b',rfl,ho⟩;have hpl:=Wr.Dy o;have hpt:=Wr.AO o;refine dS (Lr (S:=NoB) (w0:=w) (L:=[]) (Qm w o vk vc cs b' ha hb hc k9) Mh (by omega) (fun L W h=>⟨ht.own h,OwnS.keptIn h,h.size⟩) (by simpa using ho)) ?_;intro v4 w4 ho;refine dO (LA (Wr.parts o) v4 w4 (ho.D5 0 rfl) (by omega)) rfl ho fun w5 ho=>?_;refine hK _ _ ⟨?_,ho.done⟩;simp[Wr.text,hc,k9,txtV]
theorem O1 (o:Ob)(v:Value)(w:World)(hov:OV (InW w) w v o)(hb:o.wt≤100000000):Ret prog 53 #[v] w (fun v w'=>v=txtV (Wr.text o)∧Below w.heap.size w w'):=by
 obtain⟨vk,vc,cs,rfl,ha⟩:=hov.open;refine aO fun K hK=>zC ?_;unfold rE iN dx cx;refine cY o ha.keys.one ha.kids.one (Own.start w) fun b w1 ho=>?_;rw[ob_v ho 0 rfl];refine dO (jK o _ w1 (ha.in_ ho).ov (by omega)) rfl ho fun w2 ho=>?_;rw[fM];by_cases hc:Vl.check 1 o=0
 case neg=>
  simp only[ne_eq,hc,Yz,Yj,i_t];refine hK _ _ ⟨?_,ho.done⟩;simp[Wr.text,hc,txtV]
 simp only[hc,ne_eq,not_true,Yi,i_f];rw[cN,ob_k ho 0 rfl];simp only[rs];by_cases k9:o.k=9
 ·simp only[k9,Yj,i_t];refine hK _ _ ⟨?_,ho.done⟩;simp[Wr.text,hc,k9,txtV]
 simp only[k9,Yi,i_f];rw[ob_v ho 0 rfl];have hpt:=Wr.AO o;refine dS (Po o.wt o _ 1 w2 (Yw _) (ha.in_ ho).ov hb hc) ?_;intro v4 w4 hnew;have ho:=ho.join hnew;refine c_eq (Rr (Wr.parts o) v4 w4 (hnew.D5 0 rfl) (by omega)) ?_;refine hK _ _ ⟨?_,ho.done⟩;simp[Wr.text,hc,k9,txtV]
end
end Go.Proofs.YtkejpieaafeblaaGreatDoor

namespace Go.Proofs.YtkejpieaafeblaaGreatDoor
section
open Eng Go.RowKit
abbrev nilS:Value:=.slice none 0 0
abbrev ob1 (k n g:Int)(s:List UInt8):Ob:=.mk k n g s [] []
section
variable {w:World}{S:Nat→Prop}{w0:World}{L:List Ent}
theorem uP {K:Ending→World→Prop}{b:Nat}{o:Ob}{vk vc:Value}(ho:OwnS S w0 w (obE b o vk vc::L))(k:K (.returned (obV o vk vc)) w):RetX prog [.cell (.pointer (some ⟨b,0,none⟩)) 25] w K:=eG (aX (ho.agg 0 rfl dM)) k
end
def obR (o:Ob)(vk vc:Value)(w:World):VWP:=fun v w'=>v=obV o vk vc∧Below w.heap.size w w'
theorem ON (n:Int)(w:World):Ret prog 104 #[.int .i64 n] w (obR (ob1 2 n 0 []) nilS nilS w):=by
 refine aO fun K hK=>AV ?_;unfold tN iN dx;refine bN (Own.start w) fun b w1 ho=>?_;have hb:∀{PK:PKT} {K:VWP},DoX prog (aJ 25 #[(0,(.int .i64 2)),(1,.int .i64 n)]) w1 PK K=K (obV (ob1 2 n 0 []) nilS nilS) w1:=aU (by kernel_rfl);rw[hb];refine aQ 0 rfl rfl ho rfl fun w2 ho=>?_;exact uP ho (hK _ _ ⟨rfl,ho.done⟩)
theorem Nb (n:Int)(w:World):Ret prog 105 #[.int .i64 n] w (obR (ob1 3 n 0 []) nilS nilS w):=by
 refine aO fun K hK=>zW ?_;unfold rF iN dx;refine bN (Own.start w) fun b w1 ho=>?_;have hb:∀{PK:PKT} {K:VWP},DoX prog (aJ 25 #[(0,(.int .i64 3)),(1,.int .i64 n)]) w1 PK K=K (obV (ob1 3 n 0 []) nilS nilS) w1:=aU (by kernel_rfl);rw[hb];refine aQ 0 rfl rfl ho rfl fun w2 ho=>?_;exact uP ho (hK _ _ ⟨rfl,ho.done⟩)
theorem PG (s:List UInt8)(w:World):Ret prog 106 #[.string ⟨s.toArray⟩] w (obR (ob1 4 0 0 s) nilS nilS w):=by
 refine aO fun K hK=>zK ?_;unfold qA iN dx;refine bN (Own.start w) fun b w1 ho=>?_;have hb:∀{PK:PKT} {K:VWP},DoX prog (aJ 25 #[(0,(.int .i64 4)),(3,.string ⟨s.toArray⟩)]) w1 PK K=K (obV (ob1 4 0 0 s) nilS nilS) w1:=aU (by kernel_rfl);rw[hb];refine aQ 0 rfl rfl ho rfl fun w2 ho=>?_;exact uP ho (hK _ _ ⟨rfl,ho.done⟩)
theorem Pa (s:List UInt8)(w:World):Ret prog 107 #[.string ⟨s.toArray⟩] w (obR (ob1 5 0 0 s) nilS nilS w):=by
 refine aO fun K hK=>Bx ?_;unfold tH iN dx;refine bN (Own.start w) fun b w1 ho=>?_;have hb:∀{PK:PKT} {K:VWP},DoX prog (aJ 25 #[(0,(.int .i64 5)),(3,.string ⟨s.toArray⟩)]) w1 PK K=K (obV (ob1 5 0 0 s) nilS nilS) w1:=aU (by kernel_rfl);rw[hb];refine aQ 0 rfl rfl ho rfl fun w2 ho=>?_;exact uP ho (hK _ _ ⟨rfl,ho.done⟩)
theorem PR (n g:Int)(w:World):Ret prog 103 #[.int .i64 n,.int .i64 g] w (obR (ob1 8 n g []) nilS nilS w):=by
 refine aO fun K hK=>BA ?_;unfold tG iN dx;refine bN (Own.start w) fun b w1 ho=>?_;have hb:∀{PK:PKT} {K:VWP},DoX prog (aJ 25 #[(0,(.int .i64 8)),(1,.int .i64 n),(2,.int .i64 g)]) w1 PK K=K (obV (ob1 8 n g []) nilS nilS) w1:=aU (by kernel_rfl);rw[hb];refine aQ 0 rfl rfl ho rfl fun w2 ho=>?_;exact uP ho (hK _ _ ⟨rfl,ho.done⟩)
end
section
open Eng Go.RowKit
def getV (v:Value)(b:Bool):Value:=.tuple #[v,.bool b]
def errV (v:Value)(e:Int):Value:=.tuple #[v,.int .i64 e]
section
variable {w:World}{S:Nat→Prop}{w0:World}{L:List Ent}
theorem dQ {K:Ending→World→Prop}{b:Nat}{o:Ob}{vk vc x:Value}(i:Nat)(ho:OwnS S w0 w L)(hi:L[i]?=some (obE b o vk vc))(k:K (.returned (.tuple #[obV o vk vc,x])) w):RetX prog [.cell (.pointer (some ⟨b,0,none⟩)) 25,.val x] w K:=
 yF (aX (ho.agg i hi dM)) eF k
theorem D3 {PK:PKT}{K:VWP}:DoX prog (aJ 25 #[]) w PK K=K (obV Vl.ob0 nilS nilS) w:=aU (by kernel_rfl)
end
theorem LZ (w:World):Ret prog 36 #[] w (obR (ob1 0 0 0 []) nilS nilS w):=by
 refine aO fun K hK=>Im ?_;unfold Fz dx;refine bN (Own.start w) fun b w1 ho=>?_;rw[D3];refine aQ 0 rfl rfl ho rfl fun w2 ho=>?_;exact uP ho (hK _ _ ⟨rfl,ho.done⟩)
theorem NC (n:Int)(w:World):Ret prog 49 #[.int .i64 n] w (obR (ob1 2 n 0 []) nilS nilS w):=by
 refine aO fun K hK=>Ja ?_;unfold Iq iN dx;refine bN (Own.start w) fun b w1 ho=>?_;have hb:∀{PK:PKT} {K:VWP},DoX prog (aJ 25 #[(0,(.int .i64 2)),(1,.int .i64 n)]) w1 PK K=K (obV (ob1 2 n 0 []) nilS nilS) w1:=aU (by kernel_rfl);rw[hb];refine aQ 0 rfl rfl ho rfl fun w2 ho=>?_;exact uP ho (hK _ _ ⟨rfl,ho.done⟩)
theorem SW (s:List UInt8)(w:World):Ret prog 208 #[.string ⟨s.toArray⟩] w (obR (ob1 4 0 0 s) nilS nilS w):=by
 refine aO fun K hK=>EK ?_;unfold Cs iN dx;refine bN (Own.start w) fun b w1 ho=>?_;have hb:∀{PK:PKT} {K:VWP},DoX prog (aJ 25 #[(0,(.int .i64 4)),(3,.string ⟨s.toArray⟩)]) w1 PK K=K (obV (ob1 4 0 0 s) nilS nilS) w1:=aU (by kernel_rfl);rw[hb];refine aQ 0 rfl rfl ho rfl fun w2 ho=>?_;exact uP ho (hK _ _ ⟨rfl,ho.done⟩)
theorem RR (s:List UInt8)(w:World):Ret prog 209 #[.string ⟨s.toArray⟩] w (obR (ob1 5 0 0 s) nilS nilS w):=by
 refine aO fun K hK=>Hj ?_;unfold FD iN dx;refine bN (Own.start w) fun b w1 ho=>?_;have hb:∀{PK:PKT} {K:VWP},DoX prog (aJ 25 #[(0,(.int .i64 5)),(3,.string ⟨s.toArray⟩)]) w1 PK K=K (obV (ob1 5 0 0 s) nilS nilS) w1:=aU (by kernel_rfl);rw[hb];refine aQ 0 rfl rfl ho rfl fun w2 ho=>?_;exact uP ho (hK _ _ ⟨rfl,ho.done⟩)
theorem Ir (o:Ob){vk vc:Value}(hk:vk.oneCell'=true)(hc:vc.oneCell'=true)(w:World):Ret prog 79 #[obV o vk vc] w (fun v w'=>v=.bool (Vl.keyed o)∧Below w.heap.size w w'):=by
 refine aO fun K hK=>Gp ?_;unfold Dz iN dx gfx;refine cY o hk hc (Own.start w) fun b w1 ho=>?_;rw[cN,ob_k ho 0 rfl];unfold Vl.keyed at hK;by_cases h7:o.k=7
 ·simp only[rs,h7,Yj,g_un];exact hK _ _ ⟨by simp[h7],ho.done⟩
 ·simp only[rs,h7,Yi,cN,ob_k ho 0 rfl];exact hK _ _ ⟨by simp[h7],ho.done⟩
theorem Nt (o:Ob)(v:Value)(key:List UInt8)(M:Mem)(w:World)(hw:o.wt≤100000000000)(hM:M.has w)(hv:OV M.A M.w v o) :
  RetM prog 37 #[v,.string ⟨key.toArray⟩] M w (fun r N=>∃v',r=getV v' (Vl.get o key).isSome∧OV N.A N.w v' ((Vl.get o key).getD Vl.ob0)):=by
 obtain⟨vk,vc,cs,rfl,ha⟩:=hv.open;have hww:Ob.wts o.kids≤100000000000:=by cases o;rw[Ob.wt] at hw;simp only[Ob.kids];omega
 have hkt:Pl.tot o.keys≤100000000000:=by cases o;rw[Ob.wt] at hw;simp only[Ob.keys];omega
 have hkl:=Pl.dU o.keys;have hlk:=Ob.wD o.kids;refine cM hM fun K hK=>IW ?_;unfold HN iN dx gfx efx cx;refine cY o ha.keys.one ha.kids.one (OwnS.memS hM) fun b w1 ho=>?_;refine bN ho fun b4 w2 ho=>?_;rw[ob_v ho 1 rfl];refine aP ho (R:=fun v=>v=.bool (Vl.keyed o)) (Ir o ha.keys.one ha.kids.one w2) ?_;rintro _ w3 rfl ho;have no:∀{W:World},OwnS M.A w W [obE b4 ob0 nilS nilS,obE b o vk vc,.mem M]→Vl.get o key=none→DoX prog (aJ 25 #[]) W (pk K) (fun t W=>DoX prog (aC 25 (.pointer (some ⟨b4,0,none⟩)) t) W (pk K) fun _ W=>RetX prog [.cell (.pointer (some ⟨b4,0,none⟩)) 25,.val (.bool false)] W K):=by
  intro W ho hg;rw[D3];refine aQ 0 rfl rfl ho rfl fun w4 ho=>?_;refine dQ 0 ho rfl (hK _ _ M _ 2 ho rfl M.le_refl ⟨obV Vl.ob0 nilS nilS,?_,?_⟩)
  ·rw[hg];rfl
  ·rw[hg];exact El M
 cases hkd:Vl.keyed o with
|false=>
  simp only[rs,YJ];exact no ho (by unfold Vl.get;rw[hkd];rfl)
|true=>
  simp only[rs,YE];rw[eC,bV ho 1 rfl];refine c_eq (PO vk o.keys key w3 (ha.keys.now (ho.hasM 2 rfl)) (by omega)) ?_;by_cases hi:o.keys.idxOf key < o.keys.length
  ·rw[Yh hi];have h0:¬((o.keys.idxOf key:Int) < 0):=by omega
   simp only[rs,h0,Yi,dR,bJ ho 1 rfl];rw[bY Yt (ha.kids.now (ho.hasM 2 rfl))];simp only[rs];by_cases hc:(o.kids.length:Int)≤(o.keys.idxOf key:Int)
   ·simp only[hc,Yj,rs];refine no ho ?_;unfold Vl.get;rw[hkd,Yh rfl,Yh hi,aaF (by omega)]
   ·simp only[hc,Yi,rs,dR,bJ ho 1 rfl];have hi':o.keys.idxOf key < o.kids.length:=by omega
    have hg:Vl.get o key=some o.kids[o.keys.idxOf key]:=by
     unfold Vl.get;rw[hkd,Yh rfl,Yh hi,YB hi']
    obtain⟨x,q,hx,hrx⟩:=DD ha hi';obtain⟨r1,r2⟩:=hrx w3 (ho.hasM 2 rfl);refine aU r1 |>.mpr (aU r2 |>.mpr ?_);have hkw:=Ec hi';refine eD ho 2 rfl (H8 _ x M w3 (by omega) (ho.hasM 2 rfl) hx) fun y N w4 hle hy ho=>?_;obtain⟨yk,yc,ycs,rfl,hya⟩:=hy.open;refine aQ 0 hya.keys.one hya.kids.one ho rfl fun w5 ho=>?_;refine dQ 0 ho rfl (hK _ _ N _ 2 ho rfl hle ⟨obV o.kids[o.keys.idxOf key] yk yc,?_,?_⟩)
    ·rw[hg];rfl
    ·rw[hg];exact hy
  ·rw[Yg hi];have h0:((-1:Int) < 0):=by omega
   simp only[rs,h0,Yj,g_un];refine no ho ?_;unfold Vl.get;rw[hkd,Yh rfl,Yg hi]
theorem Nr (o:Ob)(v:Value)(key:List UInt8)(M:Mem)(w:World)(hw:o.wt≤100000000000)(hM:M.has w)(hv:OV M.A M.w v o) :
  RetM prog 38 #[v,.string ⟨key.toArray⟩] M w (fun r N=>∃v',r=getV v' (Vl.get o key).isSome∧OV N.A N.w v' ((Vl.get o key).getD Vl.ob0)):=by
 obtain⟨vk,vc,cs,rfl,ha⟩:=hv.open;have hww:Ob.wts o.kids≤100000000000:=by cases o;rw[Ob.wt] at hw;simp only[Ob.kids];omega
 have hkt:Pl.tot o.keys≤100000000000:=by cases o;rw[Ob.wt] at hw;simp only[Ob.keys];omega
 have hkl:=Pl.dU o.keys;have hlk:=Ob.wD o.kids;refine cM hM fun K hK=>A8 ?_;unfold kG iN dx gtx;refine cY o ha.keys.one ha.kids.one (OwnS.memS hM) fun b w1 ho=>?_;refine bN ho fun b4 w2 ho=>?_;have no:∀{W:World},OwnS M.A w W [obE b4 ob0 nilS nilS,obE b o vk vc,.mem M]→Vl.get o key=none→DoX prog (aJ 25 #[]) W (pk K) (fun t W=>DoX prog (aC 25 (.pointer (some ⟨b4,0,none⟩)) t) W (pk K) fun _ W=>RetX prog [.cell (.pointer (some ⟨b4,0,none⟩)) 25,.val (.bool false)] W K):=by
  intro W ho hg;rw[D3];refine aQ 0 rfl rfl ho rfl fun w4 ho=>?_;refine dQ 0 ho rfl (hK _ _ M _ 2 ho rfl M.le_refl ⟨obV Vl.ob0 nilS nilS,?_,?_⟩)
  ·rw[hg];rfl
  ·rw[hg];exact El M
 rw[cN,ob_k ho 1 rfl];have main:Vl.keyed o=true→DoX prog (mFA 25 (.pointer (some ⟨b,0,none⟩)) 4) w2 (pk K) (fun t17 w=>
   DoX prog (aA 22 t17) w (pk K) fun t18 w=>
   DoX prog (mB .len #[22] 3 #[false] #[t18]) w (pk K) fun t19 w=>
   LoopX [(.bool false),(.int .i64 0)] w (fun vs1 w N1=>∀_:Sg,gV (.string ⟨key.toArray⟩) (.pointer (some ⟨b,0,none⟩)) (.pointer (some ⟨b4,0,none⟩)) (vs1.getD 0 undef) t18 t19 (vs1.getD 1 undef) w N1 K)):=by
  intro hkd;rw[eC,bV ho 1 rfl,bY Yn (ha.keys.now (ho.hasM 2 rfl))];refine loop (fun vs W=>∃i:Nat,vs=[.bool false,.int .i64 i]∧i≤o.keys.length∧key ∉ o.keys.take i∧OwnS M.A w W [obE b4 ob0 nilS nilS,obE b o vk vc,.mem M]) (fun vs _=>o.keys.length - n1 vs) ⟨0,rfl,by omega,by simp,ho⟩ ?_;clear ho;rintro vs w3 ⟨i,rfl,hi,hm,ho⟩ _;simp only[gV,gd,rs,iN,dx];by_cases hlt:(i:Int) < (o.keys.length:Int)
  ·have hi':i < o.keys.length:=by omega
   simp only[hlt,Yj,i_t];obtain⟨q,hrk⟩:=NJ ha hi';obtain⟨r1,r2⟩:=hrk w3 (ho.hasM 2 rfl);refine aU r1 |>.mpr (aU r2 |>.mpr ?_);simp only[rs];by_cases he:o.keys[i]=key
   ·have hix:o.keys.idxOf key=i:=Up hi' hm he;simp only[he,Yj,i_t,dR,bJ ho 1 rfl];rw[bY Yt (ha.kids.now (ho.hasM 2 rfl))];simp only[rs];by_cases hc:(o.kids.length:Int)≤(i:Int)
    ·simp only[hc,Yj,i_t];refine no ho ?_;unfold Vl.get;rw[hkd,Yh rfl,hix,Yh hi',aaF (by omega)]
    ·simp only[hc,Yi,i_f,dR,bJ ho 1 rfl];have hc':i < o.kids.length:=by omega
     have hg:Vl.get o key=some o.kids[i]:=by
      unfold Vl.get;rw[hkd,Yh rfl,hix,Yh hi',YB hc']
     obtain⟨x,q,hx,hrx⟩:=DD ha hc';obtain⟨r1,r2⟩:=hrx w3 (ho.hasM 2 rfl);refine aU r1 |>.mpr (aU r2 |>.mpr ?_);obtain⟨yk,yc,ycs,rfl,hya⟩:=hx.open;refine aQ 0 hya.keys.one hya.kids.one ho rfl fun w5 ho=>?_;refine dQ 0 ho rfl (hK _ _ M _ 2 ho rfl M.le_refl ⟨obV o.kids[i] yk yc,?_,?_⟩)
     ·rw[hg];rfl
     ·rw[hg];exact hx
   ·simp only[he,Yi,i_f];rw[aB (by omega) (by omega)];refine bO ⟨i+1,rfl,by omega,?_,ho⟩ (by simp[n1,RowKit.intOf];omega);rw[List.take_add_one,YB hi'];simp only[Option.toList,YZ,Zs,not_or];exact⟨hm,fun e=>he e.symm⟩
  ·simp only[hlt,Yi,i_f];refine no ho ?_;rw[YO (by omega)] at hm;unfold Vl.get;rw[hkd,Yh rfl,Yg (by rw[acL];exact hm)]
 by_cases h7:o.k=7
 ·simp only[rs,h7,ne_eq,not_true,Yi,g_un];exact main (by simp[Vl.keyed,h7])
 ·simp only[rs,h7,ne_eq,Yz,Yj,cN,ob_k ho 1 rfl];by_cases h9:o.k=9
  ·simp only[h9,not_true,Yi,rs];exact main (by simp[Vl.keyed,h9])
  ·simp only[h9,Yz,Yj,rs];exact no ho (by simp[Vl.get,Vl.keyed,h7,h9])
theorem Ls (o:Ob)(v:Value)(M:Mem)(w:World)(hw:o.wt≤100000000000)(hM:M.has w)(hv:OV M.A M.w v o) :
  RetM prog 87 #[v] M w (fun r N=>∃v',r=errV v' (Vl.right o).2∧OV N.A N.w v' (Vl.right o).1):=by
 obtain⟨vk,vc,cs,rfl,ha⟩:=hv.open;refine cM hM fun K hK=>Gv ?_;unfold DP iN dx cx;refine cY o ha.keys.one ha.kids.one (OwnS.memS hM) fun b w1 ho=>?_;refine bN ho fun b4 w2 ho=>?_;rw[ob_v ho 1 rfl];refine aP ho (R:=fun v=>v=.int .i64 (Vl.check 1 o)) (pU o _ w2 (OV.inw (ho.hasM 2 rfl) hv) (by omega)) ?_;rintro _ w3 rfl ho;simp only[fM];by_cases hc:Vl.check 1 o=0
 ·simp only[hc,ne_eq,not_true,Yi,i_f];rw[ob_v ho 1 rfl];refine aQ 0 ha.keys.one ha.kids.one ho rfl fun w4 ho=>?_;refine dQ 0 ho rfl (hK _ _ M _ 2 ho rfl M.le_refl ⟨obV o vk vc,?_,?_⟩)
  ·simp[Vl.right,hc,errV]
  ·simpa[Vl.right,hc] using hv
 ·simp only[hc,ne_eq,Yz,Yj,i_t];rw[D3];refine aQ 0 rfl rfl ho rfl fun w4 ho=>?_;refine dQ 0 ho rfl (hK _ _ M _ 2 ho rfl M.le_refl ⟨obV Vl.ob0 nilS nilS,?_,?_⟩)
  ·simp[Vl.right,hc,errV]
  ·simpa[Vl.right,hc] using El M
theorem Jj (o:Ob)(v:Value)(M:Mem)(w:World)(hw:o.wt≤100000000000)(hM:M.has w)(hv:OV M.A M.w v o) :
  RetM prog 92 #[v] M w (fun r N=>∃v',r=errV v' (Vl.right o).2∧OV N.A N.w v' (Vl.right o).1):=by
 obtain⟨vk,vc,cs,rfl,ha⟩:=hv.open;refine cM hM fun K hK=>wQ ?_;unfold pE iN dx cx;refine cY o ha.keys.one ha.kids.one (OwnS.memS hM) fun b w1 ho=>?_;refine bN ho fun b4 w2 ho=>?_;rw[ob_v ho 1 rfl];refine aP ho (R:=fun v=>v=.int .i64 (Vl.check 1 o)) (jK o _ w2 (OV.inw (ho.hasM 2 rfl) hv) (by omega)) ?_;rintro _ w3 rfl ho;simp only[fM];by_cases hc:Vl.check 1 o=0
 ·simp only[hc,ne_eq,not_true,Yi,i_f];rw[ob_v ho 1 rfl];refine aQ 0 ha.keys.one ha.kids.one ho rfl fun w4 ho=>?_;refine dQ 0 ho rfl (hK _ _ M _ 2 ho rfl M.le_refl ⟨obV o vk vc,?_,?_⟩)
  ·simp[Vl.right,hc,errV]
  ·simpa[Vl.right,hc] using hv
 ·simp only[hc,ne_eq,Yz,Yj,i_t];rw[D3];refine aQ 0 rfl rfl ho rfl fun w4 ho=>?_;refine dQ 0 ho rfl (hK _ _ M _ 2 ho rfl M.le_refl ⟨obV Vl.ob0 nilS nilS,?_,?_⟩)
  ·simp[Vl.right,hc,errV]
  ·simpa[Vl.right,hc] using El M
theorem OJ (va:Value)(l:List (List UInt8))(x:List UInt8)(w:World)(ha:Sl w va 1 l.length (bB l))(hl:l.length≤1099511627776) :
  Ret prog 141 #[va,.string ⟨x.toArray⟩] w (fun v w'=>v=.tuple #[.int .i64 (Vl.place l x:Nat),.bool (Vl.hit l x)]∧Below w.heap.size w w'):=by
 refine aO fun K hK=>vT ?_;unfold gO iN;refine loop (fun vs w'=>∃i:Nat,vs=[.int .i64 i]∧i≤l.length∧(∀m (h:m < l.length),m < i→Vl.less l[m] x=true)∧w=w') (fun vs _=>l.length - n0 vs) ⟨0,rfl,by omega,fun m _ h=>by omega,rfl⟩ ?_;rintro vs w2 ⟨i,rfl,hi,hlo,rfl⟩ _;simp only[lR,gd,iN,dx,gtx,etx];rw[bY Yn ha];simp only[rs];have fin:(∀h:i < l.length,Vl.less l[i] x=false)→∀F,F=(fun C2:World→Prop=>
   QDo prog C2 (mB .len #[22] 3 #[false] #[va]) fun t24=>
   QDo prog C2 (mBin .lss 3 (.int .i64 (i:Int)) t24) fun t25=>
   GQ t25 true (fun E=>E va) fun t27=>
   GQ t25 true (fun E=>E (.int .i64 (i:Int))) fun t28=>
   GQ t25 true (fun E=>QDo prog C2 (mIA 22 t27 t28) E) fun t29=>
   GQ t25 true (fun E=>QDo prog C2 (aA 9 t29) E) fun t30=>
   GQ t25 true (fun E=>E (.string ⟨x.toArray⟩)) fun t31=>
   GQ t25 true (fun E=>QDo prog C2 (mEq .eql 9 (.tmp 30) (.tmp 31) t30 t31) E) fun t32=>
   QDo prog C2 (aF t25 t32 (.bool false)) fun t33=>
   ∀w,C2 w→K (.returned (.tuple #[.int .i64 (i:Int),t33])) w)→QuietX w F:=by
  intro hge F hF;subst hF;have hp:Vl.place l x=i:=Vl.GD hi hlo hge;refine quiet (q_at (.int .i64 (l.length:Int)) (fun W hW=>?_) (XE ?_))
  ·obtain⟨_,a,cap,rfl,_⟩:=ha;exact OO Yn
  by_cases hlt:(i:Int) < (l.length:Int)
  ·have hi':i < l.length:=by omega
   simp only[hlt,Yj,gq];obtain⟨ba,oa,ca,rfl,hca⟩:=jB ha (by omega);refine q_do _ (fun _=>oV Yn (show _=some 1 by kernel_rfl) (by omega) (by omega)) ?_;refine q_at (.string ⟨(l[i]).toArray⟩) (fun wc hw=>aL O9 ?_) ?_
   ·rw[Yo,Zk];have:=hca i _ (cD hi');exact (hw.cell (World.block_lt_of_cell? w _ this)).trans this
   refine SA ?_;refine OA ?_;intro W hW;refine hK _ _ ⟨?_,hW⟩;rw[hp];unfold Vl.hit;rw[hp,YB hi'];simp
  ·simp only[hlt,Yi,gq];refine OA ?_;intro W hW;refine hK _ _ ⟨?_,hW⟩;rw[hp];unfold Vl.hit;rw[hp,aaF (by omega)];simp
 by_cases hlt:(i:Int) < (l.length:Int)
 ·have hi':i < l.length:=by omega
  simp only[hlt,Yj,rs];refine Bs (.string ⟨(l[i]).toArray⟩) Yn (by kernel_rfl) ha (by omega) (by rw[Yo];exact cD hi') fun q hq=>?_;rw[bE O9 hq];simp only[UL];cases hc:Op.bytesLess l[i] x with
 |true=>
   simp only[rs];rw[aB (by omega) (by omega)];refine bO ⟨i+1,rfl,by omega,fun m hm hmi=>?_,rfl⟩ (by simp[n0,RowKit.intOf];omega);rcases YS m i with h|h
   ·exact hlo m hm h
   ·have:m=i:=by omega
    subst this;exact hc
 |false=>
   simp only[rs];exact fin (fun _=>hc) _ rfl
 ·simp only[hlt,Yi,rs,g_un];exact fin (fun h=>absurd h (by omega)) _ rfl
end
end Go.Proofs.YtkejpieaafeblaaGreatDoor



namespace Go.Proofs.YtkejpieaafeblaaGreatDoor
section
open Eng Go.RowKit
section
variable {P:Program}{w w0:World}{L:List Ent}{PK:PKT}{K:VWP}
end
theorem oQ {b:Nat}{w:World}{PK:PKT}{K:VWP}:DoX prog (mFA 58 (.pointer (some ⟨b,0,none⟩)) 3) w PK K=K (.pointer (some ⟨b,3,none⟩)) w:=dJ (show fOff prog 58 3=some 3 by kernel_rfl)
theorem cL {b:Nat}{w:World}{PK:PKT}{K:VWP}:DoX prog (mFA 58 (.pointer (some ⟨b,0,none⟩)) 4) w PK K=K (.pointer (some ⟨b,4,none⟩)) w:=dJ (show fOff prog 58 4=some 4 by kernel_rfl)
end
end Go.Proofs.YtkejpieaafeblaaGreatDoor
