/- Parts of the proof. -/
import Derived.Test.YtkghomgfocpgeaaGreatDoorRows
import Derived.Test.YtkghomgfocpgeaaGreatDoorMlcgdoapm
set_option linter.all false
set_option maxRecDepth 20000
open Go.Proofs.Tryz
open Go.Proofs.Tryz renaming prog->ah
open Option renaming some->ax,none->aw
open Bool renaming true->av,false->au
open Go renaming Value->aq,World->ao
open Decidable renaming decide->ai
namespace Go.Proofs.YtkghomgfocpgeaaGreatDoor
variable{K:VWP}{L:List Eng.Ent}{M:Eng.Mem}{P:Program}{PK PK2:PKT}{S:Nat->Prop}{W w w0:ao}{a:Int}{aj:List (Nat×List Nat)}{b cap d i id j:Nat}{cb:Array Bool}{cs:List aq}{fn:Func}{key:List UInt8}{o:Ob}{os:List Ob}{q:Bool}{t0 t1 v vc vk:aq}{u:FrameMode}{x:Pm}{xo yo:Operand}{t0 t1 t2 t3:aq}{k0:Eng.KT}
section
open Eng
def GB(t0 t1 t2 w)(K:KT):=nz f44 1 [] [] [] (zg [0,1,2] [t0,t1,t2]) w K
theorem Kh:GB t0 t1 t2 w k0->Calls ah 44 #[t0,t1,t2] w k0:=cw func44
def K5(t0 t1 w)(K:KT):=nz f79 1 [] [] [(12,7)] (zg [0,1] [t0,t1]) w K
theorem Nk:K5 t0 t1 w k0->Calls ah 79 #[t0,t1] w k0:=cw func79
def Ga(t0 w)(K:KT):=nz f111 1 [] [] [] (zg [0] [t0]) w K
theorem JQ:Ga t0 w k0->Calls ah 111 #[t0] w k0:=cw func111
def GJ(t0 w)(K:KT):=nz f113 1 [] [] [] (zg [0] [t0]) w K
theorem Kg:GJ t0 w k0->Calls ah 113 #[t0] w k0:=cw func113
def DK(t0 t1 w)(K:KT):=nz f148 1 [] [] [] (zg [0,1] [t0,t1]) w K
theorem HI:DK t0 t1 w k0->Calls ah 148 #[t0,t1] w k0:=cw func148
def JA(t0 t1 t2 w)(K:KT):=nz f67 1 [] [] [] (zg [0,1,2] [t0,t1,t2]) w K
theorem Mb:JA t0 t1 t2 w k0->Calls ah 67 #[t0,t1,t2] w k0:=cw func67
def ES(t0 t1 w)(K:KT):=nz f68 1 [] [] [] (zg [0,1] [t0,t1]) w K
theorem Ik:ES t0 t1 w k0->Calls ah 68 #[t0,t1] w k0:=cw func68
def yC(b a w)(K:KT):=
 ldx 25 b w K λc w=>stx 25 a c w K λ_ w=>zu ah [.cell a 25,.val (iN 0)] w K
def mZ(o b a e g h c p q d w)(J:JT)(K:KT):=
 bnx .lss 3 d q w K λr w=>IfX r (iax 22 p d w K λs w=>ldx 9 s w K λt w=>iax 75 o d w K λu w=>ldx 73 u w K λv w=>cx 69 #[v] w K λi w=>exx i 0 w K λx w=>exx i 1 w K λj w=>alx 25 w K λf w=>stx 25 f x w K λ_ w=>ecx .neq 35 93 0 j w K λy w=>IfX y (dx (aN 25 #[]) w K λz w=>stx 25 a z w K λ_ w=>zu ah [.cell a 25,.val j] w K) (cx 63 #[t] w K λA w=>dx (bJ 23 1 #[(0,A)]) w K λB w=>apx 23 g B w K λC w=>ldx 25 f w K λD w=>dx (bJ 23 1 #[(0,D)]) w K λF w=>apx 23 h F w K λG w=>gfx c (mFA 25 f 0) w K λH w=>gfx c (aG 3 H) w K λI w=>gfx c (mEq .neq 3 (.tmp 109) (.const (iN 0)) I (iN 0)) w K λL w=>dx (fK c (.bool av) L) w K λM w=>bnx .add 3 d (iN 1) w K λO w=>J [e,C,G,M,O] w)) (AI w (λS4 w=>HDo ah S4 (aG 25 b) λP=>eN ah 70 #[g] w (ay 6 (pk K)) λQ w=>S4 w∧(eN ah 65 #[P,(.string ⟨#[70,105,108,116,101,114]⟩),Q] w (ay 6 (pk K)) λk w=>(HDo ah (λ_=>True) (zt k 0) λR=>HDo ah (λ_=>True) (zt k 1) λl=>DoX ah (aV 25 b R) w (ay 6 (pk K)) λ_ w=>(ecx .neq 35 120 0 l w K λS w=>IfX S (dx (aN 25 #[]) w K λT w=>stx 25 a T w K λ_ w=>zu ah [.cell a 25,.val l] w K) (zP (λE=>IfX c (AI w (λS6 w=>HDo ah S6 (aG 25 b) λU=>eN ah 70 #[h] w (ay 6 (pk K)) λV w=>S6 w∧(eN ah 65 #[U,(.string ⟨#[68,101,99,111,100,101,80,97,114,109,115]⟩),V] w (ay 6 (pk K)) λm w=>(HDo ah (λ_=>True) (zt m 0) λW=>HDo ah (λ_=>True) (zt m 1) λn=>DoX ah (aV 25 b W) w (ay 6 (pk K)) λ_ w=>(ecx .neq 35 132 0 n w K λX w=>IfX X (dx (aN 25 #[]) w K λY w=>stx 25 a Y w K λ_ w=>zu ah [.cell a 25,.val n] w K) (E [e] w)))))) (E [e] w)) (λN w=>∀_:Sg,yC b a w K)))))))
def gK(b f g c a h d w)(F:JT)(K:KT):=
 bnx .geq 3 d (iN 0) w K λm w=>IfX m (AI w (λS2 w=>HDo ah S2 (mIA 22 b d) λn=>HDo ah S2 (aG 9 n) λo=>HDo ah S2 (mIA 75 f d) λp=>HDo ah S2 (aG 73 p) λq=>eN ah 67 #[o,q,g] w (ay 14 (pk K)) λi w=>S2 w∧(HDo ah S2 (zt i 0) λr=>HDo ah S2 (zt i 1) λj=>ecx .neq 35 59 0 j w K λs w=>IfX s (dx (aN 25 #[]) w K λt w=>stx 25 a t w K λ_ w=>zu ah [.cell a 25,.val j] w K) (bnx .sub 3 d (iN 1) w K λu w=>F [r,h,u] w)))) (ldx 25 c w K λv w=>cx 68 #[v,g] w K λk w=>exx k 0 w K λx w=>exx k 1 w K λl w=>stx 25 c x w K λ_ w=>ecx .neq 35 69 0 l w K λe w=>efx e b w λy w=>gfx e (mB .len #[22] 3 #[au] #[y]) w K λz w=>gfx e (mEq .eql 3 (.tmp 73) (.const (iN 0)) z (iN 0)) w K λA w=>dx (fK e (.bool av) A) w K λB w=>IfX B (ldx 25 c w K λC w=>stx 25 a C w K λ_ w=>zu ah [.cell a 25,.val l] w K) (lnx 22 b w K λD w=>zr [h,(.slice aw 0 0),(.slice aw 0 0),(.bool au),(iN 0)] w (λE w G=>∀_:Sg,mZ f c a (E.getD 0 undef) (E.getD 1 undef) (E.getD 2 undef) (E.getD 3 undef) b D (E.getD 4 undef) w G K)))
def DL(g h i j w)(K:KT):=
 dx (AS 25 g) w K λc w=>alx 25 w K λa w=>fax 25 c 0 w K λk w=>ldx 3 k w K λl w=>ecx .neq 3 20 9 l w K λb w=>gtx b (mFA 25 c 0) w K λm w=>gtx b (aG 3 m) w K λn w=>gtx b (mEq .neq 3 (.tmp 24) (.const (iN 7)) n (iN 7)) w K λo w=>dx (fK b o (.bool au)) w K λp w=>IfX p (dx (aN 25 #[]) w K λq w=>stx 25 a q w K λ_ w=>zu ah [.cell a 25,.val (iN 10)] w K) (cx 66 #[h,i] w K λd w=>exx d 0 w K λe w=>exx d 1 w K λr w=>exx d 2 w K λf w=>ecx .neq 35 35 0 f w K λs w=>IfX s (dx (aN 25 #[]) w K λt w=>stx 25 a t w K λ_ w=>zu ah [.cell a 25,.val f] w K) (lnx 22 e w K λu w=>bnx .sub 3 u (iN 1) w K λv w=>zr [j,(iN 0),v] w (λx w y=>∀_:Sg,gK e r (x.getD 0 undef) c a (x.getD 1 undef) (x.getD 2 undef) w y K)))
theorem GP:DL t0 t1 t2 t3 w k0->Calls ah 35 #[t0,t1,t2,t3] w k0:=cz [(34,[9])] [(7,[3,9,11]),(18,[9,12,13,14,80])] func35
def HQ(d w)(K:KT):=
 dx (AS 73 d) w K λa w=>alx 25 w K λb w=>zp w (λy=>QDo ah y (aG 73 a) λe=>Eu ah y 105 #[] λf=>QDo ah y (mEq .eql 73 (.tmp 4) (.tmp 5) e f) λg=>
 ∀w,y w ->
 IfX g (dx (aN 25 #[]) w K λh w=>stx 25 b h w K λ_ w=>zu ah [.cell b 25,.val (iN 0)] w K) (AI w (λS2 w=>HDo ah (λ_=>True) (mFA 73 a 1) λi=>HDo ah S2 (aG 3 i) λj=>HDo ah (λ_=>True) (mFA 73 a 2) λk=>HDo ah S2 (aG 3 k) λl=>HDo ah (λ_=>True) (mFA 73 a 0) λm=>HDo ah S2 (aG 3 m) λn=>eN ah 63 #[(.string ⟨#[67,111,108,111,114,115]⟩)] w (ay 9 (pk K)) λo w=>S2 w∧(eN ah 62 #[j] w (ay 9 (pk K)) λp w=>S2 w∧(eN ah 63 #[(.string ⟨#[67,111,108,117,109,110,115]⟩)] w (ay 9 (pk K)) λq w=>S2 w∧(eN ah 62 #[l] w (ay 9 (pk K)) λr w=>S2 w∧(eN ah 63 #[(.string ⟨#[80,114,101,100,105,99,116,111,114]⟩)] w (ay 9 (pk K)) λs w=>S2 w∧(eN ah 62 #[n] w (ay 9 (pk K)) λt w=>S2 w∧(DoX ah (bJ 23 6 #[(0,o),(1,p),(2,q),(3,r),(4,s),(5,t)]) w (ay 9 (pk K)) λu w=>S2 w∧(eN ah 107 #[u] w (ay 9 (pk K)) λc w=>S2 w∧(HDo ah (λ_=>True) (zt c 0) λv=>HDo ah (λ_=>True) (zt c 1) λx=>DoX ah (aV 25 b v) w (ay 9 (pk K)) λ_ w=>(zu ah [.cell b 25,.val x] w K))))))))))))
theorem Kd:HQ t0 w k0->Calls ah 69 #[t0] w k0:=cw func69
def EK(t0 w)(K:KT):=nz f70 1 [] [] [] (zg [0] [t0]) w K
theorem IW:EK t0 w k0->Calls ah 70 #[t0] w k0:=cw func70
def E9(t12 t13 t14 t51 w)(a:JT)(K:KT):=nz f66 30399 [a] [nh 33 [12,51]] [(20,10)] (zg [12,13,14,51] [t12,t13,t14,t51]) w K
def E3(t1 t7 t12 t49 t50 t51 w)(a:JT)(K:KT):=nz f66 703 [a] [nh 33 [12,51],(40,[12],λs v j w f=>E9 (vg v 0) (s 13) (s 14) (s 51) w (f 0) K)] [] (zg [1,7,12,49,50,51] [t1,t7,t12,t49,t50,t51]) w K
def Fq(t0 t1 t7 t18 t19 t20 w)(a:JT)(K:KT):=nz f66 87 [a] [nh 11 [7,20],(33,[12,51],λs v j w f=>E3 (s 1) (s 7) (vg v 0) (s 49) (s 50) (vg v 1) w (f 0) K)] [] (zg [0,1,7,18,19,20] [t0,t1,t7,t18,t19,t20]) w K
def Jc(t0 t1 w)(K:KT):=nz f66 1 [] [(11,[7,20],λs v j w f=>Fq (s 0) (s 1) (vg v 0) (s 18) (s 19) (vg v 1) w (f 0) K)] [] (zg [0,1] [t0,t1]) w K
theorem LR:Jc t0 t1 w k0->Calls ah 66 #[t0,t1] w k0:=cz [(20,[12])] [(5,[7,20]),(16,[12,51])] func66
def sK(t0 t1 w)(K:KT):=nz f119 1 [] [] [] (zg [0,1] [t0,t1]) w K
theorem Bj:sK t0 t1 w k0->Calls ah 119 #[t0,t1] w k0:=cw func119
def oD(t0 t1 w)(K:KT):=nz f120 1 [] [] [] (zg [0,1] [t0,t1]) w K
theorem yG:oD t0 t1 w k0->Calls ah 120 #[t0,t1] w k0:=cw func120
end
section
open Eng Go.RowKit
namespace Ff
abbrev nHx:List UInt8:=[65,83,67,73,73,72,101,120,68,101,99,111,100,101]
abbrev n85:List UInt8:=[65,83,67,73,73,56,53,68,101,99,111,100,101]
abbrev nRL:List UInt8:=[82,117,110,76,101,110,103,116,104,68,101,99,111,100,101]
abbrev nFl:List UInt8:=[70,108,97,116,101,68,101,99,111,100,101]
abbrev cT:List UInt8:=[70,105,108,116,101,114]
abbrev gH:List UInt8:=[68,101,99,111,100,101,80,97,114,109,115]
abbrev Eg:List UInt8:=[80,114,101,100,105,99,116,111,114]
abbrev Eh:List UInt8:=[67,111,108,111,114,115]
abbrev Ed:List UInt8:=[67,111,108,117,109,110,115]
abbrev SR:List UInt8:=[66,105,116,115,80,101,114,67,111,109,112,111,110,101,110,116]
def full (n:List UInt8):List UInt8:=
 if n=[65,72,120]∨n=nHx then nHx
 else if n=[65,56,53]∨n=n85 then n85
 else if n=[82,76]∨n=nRL then nRL
 else if n=[70,108]∨n=nFl then nFl
 else []
def qY:Pm:=⟨1,1,1⟩
def num (o:Ob)(key:List UInt8):Int×Int:=match Vl.get o key with|none=>(1,0)|some v=>if v.k=2 then (v.n,0) else (0,10)
def BY (o:Ob):Pm×Int:=
 if o.k=0 then (qY,0)
 else if o.k=7∧(num o Eg).2=0∧(num o Eh).2=0∧(num o Ed).2=0 then (⟨(num o Eg).1,(num o Eh).1,(num o Ed).1⟩,0)
 else (⟨0,0,0⟩,10)
def eight (o:Ob):Bool:=match Vl.get o SR with|none=>av|some v=>ai (v.k=2)&&ai (v.n=8)
theorem Wh (n:List UInt8):full n=nHx∨full n=n85∨full n=nRL∨full n=nFl∨full n=[]:=by
 unfold full
 repeat' split
 all_goals simp
end Ff
theorem Mn (n:List UInt8)(w:ao):Ret ah 76 #[ae n] w (λv w'=>v=.tuple #[ae (Ff.full n),.bool (ai (Ff.full n≠[]))]∧w=w'):=by
 refine aL λK j=>Ki ?_;unfold G2 eqx;refine join λr k=>join λs l=>join λt o=>join λu p=>join λx q=>?_;have fin:∀m:List UInt8,m=Ff.full n->m≠[]->r [ae m] w:=λm hm a=>k _ _ λ_=>by
  simp only[Dw,gd];exact j _ _ ⟨by rw[<-hm,auR a],rfl⟩
 have f5:∀m:List UInt8,m=Ff.full n->m≠[]->x [ae m] w:=λm hm a=>q _ _ λ_=>by
  simp only[B7,gd];exact fin m hm a
 have f4:∀m:List UInt8,m=Ff.full n->m≠[]->u [ae m] w:=λm hm a=>p _ _ λ_=>by
  simp only[DI,gd];exact fin m hm a
 have f3:∀m:List UInt8,m=Ff.full n->m≠[]->t [ae m] w:=λm hm a=>o _ _ λ_=>by
  simp only[CG,gd];exact fin m hm a
 have f2:∀m:List UInt8,m=Ff.full n->m≠[]->s [ae m] w:=λm hm a=>l _ _ λ_=>by
  simp only[DG,gd];exact fin m hm a
 clear k l o p q fin;rw[M8];by_cases c:n=[65,72,120]
 ·rw[auR c,i_t];exact f5 _ (by unfold Ff.full;rw[auP (.inl c)]) dc
 rw[auQ c,i_f,M8];by_cases b:n=Ff.nHx
 ·rw[auR b,i_t];exact f5 _ (by unfold Ff.full;rw[auP (.inr b),b]) (by rw[b];decide)
 rw[auQ b,i_f,M8];by_cases c3:n=[65,56,53]
 ·rw[auR c3,i_t];exact f4 _ (by unfold Ff.full;rw[auO (by simp[c,b]),auP (.inl c3)]) dc
 rw[auQ c3,i_f,M8];by_cases d:n=Ff.n85
 ·rw[auR d,i_t];exact f4 _ (by unfold Ff.full;rw[auO (by simp[c,b]),auP (.inr d),d]) (by rw[d];decide)
 rw[auQ d,i_f,M8];by_cases g:n=[82,76]
 ·rw[auR g,i_t];exact f3 _ (by unfold Ff.full;rw[auO (by simp[c,b]),auO (by simp[c3,d]),auP (.inl g)]) dc
 rw[auQ g,i_f,M8];by_cases f:n=Ff.nRL
 ·rw[auR f,i_t];exact f3 _ (by unfold Ff.full;rw[auO (by simp[c,b]),auO (by simp[c3,d]),auP (.inr f),f]) (by rw[f];decide)
 rw[auQ f,i_f,M8];by_cases i:n=[70,108]
 ·rw[auR i,i_t];exact f2 _ (by unfold Ff.full;rw[auO (by simp[c,b]),auO (by simp[c3,d]),auO (by simp[g,f]),auP (.inl i)]) dc
 rw[auQ i,i_f,M8];by_cases h:n=Ff.nFl
 ·rw[auR h,i_t];exact f2 _ (by unfold Ff.full;rw[auO (by simp[c,b]),auO (by simp[c3,d]),auO (by simp[g,f]),auP (.inr h),h]) (by rw[h];decide)
 rw[auQ h,i_f];have e:Ff.full n=[]:=by unfold Ff.full;rw[auO (by simp[c,b]),auO (by simp[c3,d]),auO (by simp[g,f]),auO (by simp[i,h])]
 exact j _ _ ⟨by rw[e];rfl,rfl⟩
theorem akO {b c:Int}:DoX ah (aN 73 #[(0,ad a),(1,ad b),(2,ad c)]) w PK K=K (pmV ⟨a,b,c⟩) w:=aC krx
theorem WD (a:dQ S w0 w L)(k:∀b w',dQ S w0 w' (pmE b ⟨0,0,0⟩::L)->K (af b 0) w'):DoX ah (iM 73) w PK K:=
 bB (λb=>af b 0) (pmC ⟨0,0,0⟩) 73 (λ_=>by kernel_rfl) a k
theorem I5 (i:Nat)(y:Pm)(a:dQ S w0 w L)(hi:L[i]?=ax (pmE b x))(k:∀w',dQ S w0 w' (L.set i (pmE b y))->K undef w'):DoX ah (aV 73 (af b 0) (pmV y)) w PK K:=
 gF i a hi szPm ME rfl k
theorem IM (w:ao):Ret ah 105 #[] w (λv w'=>v=pmV Ff.qY∧Below w.heap.size w w'):=by
 refine aL λK c=>HU ?_;unfold EI nz;refine WD (Own.start w) λb d a=>?_;rw[akO];refine I5 0 Ff.qY a rfl λw2 a=>?_;exact gC (bG (a.agg 0 rfl F3)) (c _ _ ⟨rfl,a.done⟩)
theorem alM:jZ ah 110=true:=krx
def upF (e:Int):PanicEntry:={ v:=.iface 110 (.agg #[ad e]),recovered:=au }
theorem ahL (e:Int)(w:ao):Ret ah 74 #[.bool av,ad e] w (λv w'=>v=.tuple #[]∧w=w'):=by
 refine aL λK a=>Bb ?_;unfold zX nz;simp only[rs,avY,i_f];exact a _ _ ⟨rfl,rfl⟩
theorem aiJ (e:Int)(w:ao):Pan ah 74 #[.bool au,ad e] w (λc w'=>c=[upF e]∧w=w'):=by
 refine TH λK a=>Bb ?_;unfold zX nz;simp only[rs,awA,i_t];have b:∀{PK:PKT} {K:VWP},DoX ah (aN 110 #[(0,ad e)]) w PK K=K (.agg #[ad e]) w:=aC krx;rw[b,KP alM,Ib];exact a _ _ ⟨rfl,rfl⟩
section
variable {w:ao}{PK:PKT}{K:VWP}{S:Nat->Prop}{w0:ao}{L:List Ent}
theorem rD {e:Int}(a:q=av->K (.tuple #[]) w)(b:q=au->PK [upF e] w):eN ah 74 #[.bool q,ad e] w PK K:=by
 cases q with
|true=>exact zq (ahL e w) (a rfl)
|false=>exact acS (aiJ e w) λc w' ⟨d,hw⟩=>by subst d;subst hw;exact b rfl
theorem XL (a:dQ S w0 w (.mem M::L))(hw:o.wt<=100000000000)(j:OV M.A M.w v o)
  (c:(Ff.num o key).2=0->∀N W,M.le N->dQ S w0 W (.mem N::L)->K (ad (Ff.num o key).1) W)
  (i:(Ff.num o key).2≠0->∀N W,M.le N->dQ S w0 W (.mem N::L)->PK [upF 10] W):eN ah 145 #[v,ae key] w PK K:=by
 obtain⟨vk,vc,cs,rfl,k⟩:=j.open;generalize b:Ff.num o key=X at c i;unfold Ff.num at b;refine⟨GR ?_⟩;unfold Ch nz;refine dD o k.keys.one k.kids.one a λb2 m a=>?_;rw[oV a 0 rfl];refine aY a 1 rfl (DZ o _ key M m hw (a.hasM 1 rfl) j) ?_;rintro _ N w2 hle ⟨t,rfl,d⟩ a;obtain⟨n,p,rfl,d⟩:=iC d;simp only[G5,ex];refine dF a λq r a=>?_;refine bK 0 d.oneK d.oneC a rfl λg a=>?_;have drop:∀{W:ao} {e f:Ent},dQ S w0 W (e::f::.mem N::L)->dQ S w0 W (.mem N::L):=λa=>a.tail.tail;have a:dQ S w0 g (obE q ((Vl.get o key).getD Vl.ob0) n p::obE b2 o vk vc::.mem N::L):=a;cases l:Vl.get o key with
|none=>
  rw[l] at b a;simp only[awT,rs,awA,i_t];rw[<-b] at c;exact c rfl N g hle (drop a)
|some x=>
  rw[l] at b a;dsimp only at b;rw[awN] at a;simp only[awU,rs,avY,i_f];rw[cO,zn a 0 rfl];simp only[rs];refine rD (λh=>?_) (λh=>?_)
  ·have h:=avG h;rw[auP h] at b;rw[oA,Dr a 0 rfl];rw[<-b] at c;exact c rfl N g hle (drop a)
  ·have h:=avU h;rw[auO h] at b;rw[<-b] at i;exact i dc N g hle (drop a)
theorem anD (a:dQ S w0 w (.mem M::L))(hw:o.wt<=100000000000)(i:OV M.A M.w v o)
  (e:(Ff.BY o).2=0->∀N W,M.le N->dQ S w0 W (.mem N::L)->K (pmV (Ff.BY o).1) W)
  (n:(Ff.BY o).2=10->∀N W,M.le N->dQ S w0 W (.mem N::L)->PK [upF 10] W):eN ah 108 #[v] w PK K:=by
 obtain⟨vk,vc,cs,rfl,z⟩:=i.open;generalize b:Ff.BY o=X at e n;unfold Ff.BY at b;refine⟨LJ ?_⟩;unfold JB iN dx ldx fax stx alx ecx cx;refine dD o z.keys.one z.kids.one a λc I a=>?_;refine WD a λb2 w2 a=>?_;rw[cO,zn a 1 rfl];simp only[rs];by_cases l:o.k=0
 ·rw[auP l] at b;simp only[l,auS,i_t];refine aI a (IM w2) ?_;rintro _ w3 rfl a;refine I5 0 Ff.qY a rfl λp a=>?_;rw[<-b] at e;exact gC (bG (a.agg 0 rfl F3)) (e rfl M p M.le_refl a.tail.tail)
 rw[auO l] at b;simp only[l,auT,i_f];rw[cO,zn a 1 rfl];simp only[rs];have bad:∀{N W},¬(o.k=7∧(Ff.num o Ff.Eg).2=0∧(Ff.num o Ff.Eh).2=0∧(Ff.num o Ff.Ed).2=0)->M.le N->dQ S w0 W (.mem N::L)->PK [upF 10] W:=by
  intro N W h hle a;rw[auO h] at b;rw[<-b] at n;exact n rfl N W hle a
 refine rD (λf=>?_) (λf=>bad (λk=>(avU f) k.1) M.le_refl a.tail.tail);have f:=avG f;have a:=a.drew;refine⟨λW=>(obE c o vk vc).is W,a.at_ 1 rfl,?_⟩;have q:∀W,(obE c o vk vc).is W->(aG 25 (af c 0)).run ah W=.ok (.value (obV o vk vc)) W:=λW h=>bC (AtV.agg mQ (cs:=obC o vk vc) rfl λj u C=>by rw[avC];exact aJ (T:=25) h C);refine iJ _ q (iJ _ q (iJ _ q ?_));have fr:∀{W:ao} {N:Mem},dQ S w0 W (pmE b2 ⟨0,0,0⟩::obE c o vk vc::.mem N::L)->dQ S w0 W (.mem N::pmE b2 ⟨0,0,0⟩::obE c o vk vc::L):=λ{W N} a=>by
  have a:dQ S w0 W ([pmE b2 ⟨0,0,0⟩,obE c o vk vc]++([.mem N]++L)):=a;exact a.front
 have m:∀{W:ao} {N:Mem} {x:Pm},dQ S w0 W (.mem N::pmE b2 x::obE c o vk vc::L)->dQ S w0 W (.mem N::L):=λ{W N x} a=>a.sub (.cons_cons _ (.cons _ (.cons _ (axX _))));refine XL (fr a) hw i (λr D E d a=>?_) (λr D E d a=>λ_ _ _ _=>bad (λk=>r k.2.1) d (m a));refine⟨a.at_ 2 rfl,?_⟩;refine XL a hw (i.le d) (λs F G g a=>?_) (λs F G g a=>λ_ _ _ _=>bad (λk=>s k.2.2.1) (d.trans g) (m a));refine⟨a.at_ 2 rfl,?_⟩;refine XL a hw ((i.le d).le g) (λt B H y a=>?_) (λt B H y a=>λ_ _ _ _=>bad (λk=>t k.2.2.2) ((d.trans g).trans y) (m a));refine⟨a.at_ 2 rfl,?_⟩;rw[auP ⟨f,r,s,t⟩] at b;refine aX (pmV ⟨(Ff.num o Ff.Eg).1,(Ff.num o Ff.Eh).1,(Ff.num o Ff.Ed).1⟩) (λ_=>by kernel_rfl) ?_;refine I5 1 _ a rfl λp a=>?_;rw[<-b] at e;exact gC (bG (a.agg 1 rfl F3)) (e rfl B p ((d.trans g).trans y) (m a))
end
theorem Vn (o:Ob)(v:aq)(M:Mem)(w:ao)(hw:o.wt<=100000000000)(f:M.has w)(g:OV M.A M.w v o):lA ah 109 #[v] M w (λr _=>r=.bool (Ff.eight o)):=by
 obtain⟨vk,vc,cs,rfl,h⟩:=g.open;refine aO f λK c=>Iy ?_;generalize b:Ff.eight o=X at c;unfold Ff.eight at b;unfold E6 nz;refine dD o h.keys.one h.kids.one (dQ.memS f) λb2 j a=>?_;rw[oV a 0 rfl];refine aY a 1 rfl (DZ o _ Ff.SR M j hw (a.hasM 1 rfl) g) ?_;rintro _ N w2 hle ⟨t,rfl,d⟩ a;obtain⟨l,m,rfl,d⟩:=iC d;simp only[G5,ex];refine dF a λn q a=>?_;refine bK 0 d.oneK d.oneC a rfl λp a=>?_;have a:dQ M.A w p [obE n ((Vl.get o Ff.SR).getD Vl.ob0) l m,obE b2 o vk vc,.mem N]:=a;cases i:Vl.get o Ff.SR with
|none=>
  rw[i] at b a;simp only[awT,rs,awA,iO,i_t];exact c _ _ N _ 2 a rfl hle (by rw[<-b])
|some x=>
  rw[i] at b a;dsimp only at b;rw[awN] at a;simp only[awU,rs,avY];rw[cO,zn a 0 rfl];simp only[rs];by_cases e:x.k=2
  ·simp only[e,auS,rs];rw[oA,Dr a 0 rfl];simp only[rs];exact c _ _ N _ 2 a rfl hle (by rw[<-b,e];rfl)
  ·simp only[e,auT,rs,iO];exact c _ _ N _ 2 a rfl hle (by rw[<-b,auQ e];rfl)
end
section
open Eng
def sR(t0 w)(K:KT):=nz f88 1 [] [] [] (zg [0] [t0]) w K
theorem Bv:sR t0 w k0->Calls ah 88 #[t0] w k0:=cw func88
def pW(t0 w)(K:KT):=nz f125 1 [] [] [] (zg [0] [t0]) w K
theorem zV:pW t0 w k0->Calls ah 125 #[t0] w k0:=cw func125
def qA(w)(K:KT):=nz f86 1 [] [] [] (zg [] []) w K
theorem Ah:qA w k0->Calls ah 86 #[] w k0:=cw func86
def mE(t6 t8 t9 w)(a:JT)(K:KT):=nz f83 2815 [a] [nh 37 [8,9]] [] (zg [6,8,9] [t6,t8,t9]) w K
def lM(t6 t7 w)(a:JT)(K:KT):=nz f83 351 [a] [nh 21 [7],(37,[8,9],λs v j w f=>mE (s 6) (vg v 0) (vg v 1) w (f 0) K)] [] (zg [6,7] [t6,t7]) w K
def fN(t6 w)(K:KT):=nz f83 63 [] [(21,[7],λs v j w f=>lM (s 6) (vg v 0) w (f 0) K)] [] (zg [6] [t6]) w K
def pM(t0 w)(K:KT):=nz f83 1 [] [(18,[6],λs v j w f=>fN (vg v 0) w K)] [] (zg [0] [t0]) w K
theorem zF:pM t0 w k0->Calls ah 83 #[t0] w k0:=cz [(9,[6])] [(10,[7]),(18,[8,9])] func83
def oH(t0 t1 w)(K:KT):=nz f126 1 [] [] [] (zg [0,1] [t0,t1]) w K
theorem xS:oH t0 t1 w k0->Calls ah 126 #[t0,t1] w k0:=cw func126
def tO(t0 w)(K:KT):=nz f84 1 [] [] [] (zg [0] [t0]) w K
theorem BC:tO t0 w k0->Calls ah 84 #[t0] w k0:=cw func84
def rK(t0 w)(K:KT):=nz f85 1 [] [] [] (zg [0] [t0]) w K
theorem BL:rK t0 w k0->Calls ah 85 #[t0] w k0:=cw func85
def rO(t5 t10 t15 w)(a:JT)(K:KT):=nz f50 45055 [a] [nh 61 [15]] [] (zg [5,10,15] [t5,t10,t15]) w K
def sI(t5 t10 w)(a:JT)(K:KT):=nz f50 10239 [a] [nh 55 [10],(61,[15],λs v j w f=>rO (s 5) (s 10) (vg v 0) w (f 0) K)] [] (zg [5,10] [t5,t10]) w K
def sW(t5 t9 t10 t14 w)(a:JT)(K:KT):=nz f50 11263 [a] [nh 47 [14],(55,[10],λs v j w f=>sI (s 5) (vg v 0) w (f 0) K)] [] (zg [5,9,10,14] [t5,t9,t10,t14]) w K
def rF(t5 t9 t10 t11 w)(a:JT)(K:KT):=nz f50 2815 [a] [nh 29 [10,11],(47,[14],λs v j w f=>sW (s 5) (s 9) (s 10) (vg v 0) w (f 0) K)] [] (zg [5,9,10,11] [t5,t9,t10,t11]) w K
def rR(t5 t9 w)(K:KT):=nz f50 255 [] [(29,[10,11],λs v j w f=>rF (s 5) (s 9) (vg v 0) (vg v 1) w (f 0) K)] [] (zg [5,9] [t5,t9]) w K
def wM(t0 w)(K:KT):=nz f50 1 [] [(24,[9],λs v j w f=>rR (s 5) (vg v 0) w K)] [] (zg [0] [t0]) w K
theorem Ee:wM t0 w k0->Calls ah 50 #[t0] w k0:=cz [(12,[9])] [(14,[10,11]),(23,[14]),(27,[10]),(30,[15])] func50
def sF(t0 t1 t2 w)(K:KT):=nz f51 1 [] [] [] (zg [0,1,2] [t0,t1,t2]) w K
theorem BP:sF t0 t1 t2 w k0->Calls ah 51 #[t0,t1,t2] w k0:=cw func51
def jW(b f c a w)(p:JT)(K:KT):=
 lnx 22 b w K λg w=>bnx .lss 3 a g w K λh w=>IfX h (AI w (λS2 w=>HDo ah S2 (mIA 22 b a) λi=>HDo ah S2 (aG 9 i) λj=>HDo ah S2 (mIA 75 f a) λk=>HDo ah S2 (aG 73 k) λl=>eN ah 51 #[j,l,c] w (ay 14 (pk K)) λd w=>S2 w∧(HDo ah S2 (zt d 0) λm=>HDo ah S2 (zt d 1) λe=>ecx .neq 35 41 0 e w K λn w=>IfX n (K (.returned (.tuple #[(.string ⟨#[]⟩),e])) w) (bnx .add 3 a (iN 1) w K λo w=>p [m,o] w)))) (K (.returned (.tuple #[c,(iN 0)])) w)
def nH(d w)(K:KT):=
 dx (AS 25 d) w K λb w=>ldx 25 b w K λe w=>cx 50 #[e] w K λa w=>exx a 0 w K λf w=>exx a 1 w K λg w=>exx a 2 w K λc w=>ecx .neq 35 17 0 c w K λh w=>IfX h (K (.returned (.tuple #[(.string ⟨#[]⟩),c])) w) (fax 25 b 3 w K λi w=>ldx 9 i w K λj w=>zr [j,(iN 0)] w (λk w l=>∀_:Sg,jW f g (k.getD 0 undef) (k.getD 1 undef) w l K))
theorem xJ:nH t0 w k0->Calls ah 24 #[t0] w k0:=cz [] [(6,[7,8])] func24
end
section
open Eng Go.RowKit
theorem F1 (n:List UInt8)(w:ao):Ret ah 88 #[ae n] w (λv w'=>v=ae (Ff.full n)∧w=w'):=by
 refine aL λK i=>Bv ?_;unfold sR nz;generalize a:Ff.full n=X at i;unfold Ff.full at a;have fin:∀m:List UInt8,m=X->K (.returned (ae m)) w:=λm hm=>i _ _ ⟨by rw[hm],rfl⟩;simp only[rs];by_cases b:n=Ff.nHx
 ·rw[auP (.inr b)] at a;simp only[auR b,rs,i_t,iO];exact fin _ a
 simp only[auQ b,rs];by_cases c:n=[65,72,120]
 ·rw[auP (.inl c)] at a;simp only[auR c,rs,i_t];exact fin _ a
 rw[auO (by simp[b,c])] at a;simp only[auQ c,rs,i_f];by_cases c3:n=Ff.n85
 ·rw[auP (.inr c3)] at a;simp only[auR c3,rs,i_t,iO];exact fin _ a
 simp only[auQ c3,rs];by_cases d:n=[65,56,53]
 ·rw[auP (.inl d)] at a;simp only[auR d,rs,i_t];exact fin _ a
 rw[auO (by simp[c3,d])] at a;simp only[auQ d,rs,i_f];by_cases e:n=Ff.nRL
 ·rw[auP (.inr e)] at a;simp only[auR e,rs,i_t,iO];exact fin _ a
 simp only[auQ e,rs];by_cases f:n=[82,76]
 ·rw[auP (.inl f)] at a;simp only[auR f,rs,i_t];exact fin _ a
 rw[auO (by simp[e,f])] at a;simp only[auQ f,rs,i_f];by_cases g:n=Ff.nFl
 ·rw[auP (.inr g)] at a;simp only[auR g,rs,i_t,iO];exact fin _ a
 simp only[auQ g,rs];by_cases h:n=[70,108]
 ·rw[auP (.inl h)] at a;simp only[auR h,rs,i_t];exact fin _ a
 rw[auO (by simp[g,h])] at a;simp only[auQ h,rs,i_f];exact fin [] a
theorem Qk (n:List UInt8)(w:ao):Ret ah 125 #[ae n] w (λv w'=>v=.bool (ai (Ff.full n≠[]))∧w=w'):=by
 refine aL λK a=>zV ?_;unfold pW nz;refine zq (F1 n w) ?_;rw[show (Value.string ⟨#[]⟩)=ae ([]:List UInt8) from rfl,Wx];exact a _ _ ⟨rfl,rfl⟩
theorem Jj (w:ao):Ret ah 86 #[] w (λv w'=>v=pmV Ff.qY∧Below w.heap.size w w'):=by
 refine aL λK c=>Ah ?_;unfold qA nz;refine WD (Own.start w) λb d a=>?_;rw[akO];refine I5 0 Ff.qY a rfl λw2 a=>?_;exact gC (bG (a.agg 0 rfl F3)) (c _ _ ⟨rfl,a.done⟩)
theorem zD (o:Ob)(v:aq)(key:List UInt8)(M:Mem)(w:ao)(hw:o.wt<=100000000000)(f:M.has w)(g:OV M.A M.w v o) :
  lA ah 126 #[v,ae key] M w (λr _=>r=.tuple #[ad (Ff.num o key).1,ad (Ff.num o key).2]):=by
 obtain⟨vk,vc,cs,rfl,i⟩:=g.open;refine aO f λK c=>xS ?_;generalize b:Ff.num o key=X at c;unfold Ff.num at b;unfold oH nz;refine dD o i.keys.one i.kids.one (dQ.memS f) λb2 l a=>?_;rw[oV a 0 rfl];refine aY a 1 rfl (kX o _ key M l hw (a.hasM 1 rfl) g) ?_;rintro _ N w2 hle ⟨t,rfl,d⟩ a;obtain⟨m,n,rfl,d⟩:=iC d;simp only[G5,ex];refine dF a λp s a=>?_;refine bK 0 d.oneK d.oneC a rfl λq a=>?_;have a:dQ M.A w q [obE p ((Vl.get o key).getD Vl.ob0) m n,obE b2 o vk vc,.mem N]:=a;cases j:Vl.get o key with
|none=>
  rw[j] at b a;simp only[awT,rs,awA,i_t];exact c _ _ N _ 2 a rfl hle (by rw[<-b])
|some x=>
  rw[j] at b a;dsimp only at b;rw[awN] at a;simp only[awU,rs,avY,i_f];rw[cO,zn a 0 rfl];simp only[rs];by_cases e:x.k=2
  ·rw[auP e] at b;simp only[auQ (show ¬x.k≠2 fromλh=>h e),i_f];rw[oA,Dr a 0 rfl];exact c _ _ N _ 2 a rfl hle (by rw[<-b])
  ·rw[auO e] at b;simp only[auR (show x.k≠2 from e),i_t];exact c _ _ N _ 2 a rfl hle (by rw[<-b])
theorem arW :DoX ah (aN 73 #[]) w PK K=K (pmV ⟨0,0,0⟩) w:=aC krx
theorem SM (o:Ob)(v:aq)(M:Mem)(w:ao)(hw:o.wt<=100000000000)(n:M.has w)(c:OV M.A M.w v o) :
  lA ah 84 #[v] M w (λr _=>r=.tuple #[pmV (Ff.BY o).1,ad (Ff.BY o).2]):=by
 obtain⟨vk,vc,cs,rfl,p⟩:=c.open;refine aO n λK d=>BC ?_;generalize b:Ff.BY o=X at d;unfold Ff.BY at b;unfold tO nz;refine dD o p.keys.one p.kids.one (dQ.memS n) λu C a=>?_;refine WD a λb2 w2 a=>?_;rw[cO,zn a 1 rfl];simp only[rs];by_cases e:o.k=0
 ·rw[auP e] at b;simp only[e,auS,i_t];refine aI a (Jj w2) ?_;rintro _ w3 rfl a;refine I5 0 Ff.qY a rfl λq a=>?_;exact mP (bG (a.agg 0 rfl F3)) pV (d _ _ M _ 2 a rfl M.le_refl (by rw[<-b];rfl))
 rw[auO e] at b;simp only[e,auT,i_f];rw[oV a 1 rfl];refine aY a 2 rfl (zD o _ Ff.Eg M w2 hw (a.hasM 2 rfl) c) ?_;rintro _ x w3 l rfl a;simp only[ex];rw[oV a 1 rfl];refine aY a 2 rfl (zD o _ Ff.Eh x w3 hw (a.hasM 2 rfl) (c.le l)) ?_;rintro _ y q s rfl a;simp only[ex];rw[oV a 1 rfl];refine aY a 2 rfl (zD o _ Ff.Ed y q hw (a.hasM 2 rfl) ((c.le l).le s)) ?_;rintro _ m t z rfl a;simp only[ex];have a:dQ M.A w t [pmE b2 ⟨0,0,0⟩,obE u o vk vc,.mem m]:=a;have hle:=(l.trans s).trans z;rw[cO,zn a 1 rfl];simp only[rs];have bad:¬(o.k=7∧(Ff.num o Ff.Eg).2=0∧(Ff.num o Ff.Eh).2=0∧(Ff.num o Ff.Ed).2=0)->DoX ah (aN 73 #[]) t (pk K) (λt44 w=>
   DoX ah (aV 73 (af b2 0) t44) w (pk K) λ_ w=>zu ah [.cell (af b2 0) 73,.val (ad 10)] w K):=by
  intro h;rw[auO h] at b;rw[arW];refine I5 0 ⟨0,0,0⟩ a rfl λB a=>?_;exact mP (bG (a.agg 0 rfl F3)) pV (d _ _ m _ 2 a rfl hle (by rw[<-b];rfl))
 by_cases f:o.k=7
 case neg=>
  simp only[auR (show o.k≠7 from f),rs,i_t,iO];exact bad λk=>f k.1
 simp only[auQ (show ¬o.k≠7 fromλh=>h f),rs];by_cases g:(Ff.num o Ff.Eg).2=0
 case neg=>
  simp only[auR (show (Ff.num o Ff.Eg).2≠0 from g),rs,i_t,iO];exact bad λk=>g k.2.1
 simp only[auQ (show ¬(Ff.num o Ff.Eg).2≠0 fromλh=>h g),rs];by_cases i:(Ff.num o Ff.Eh).2=0
 case neg=>
  simp only[auR (show (Ff.num o Ff.Eh).2≠0 from i),rs,i_t,iO];exact bad λk=>i k.2.2.1
 simp only[auQ (show ¬(Ff.num o Ff.Eh).2≠0 fromλh=>h i),rs];by_cases j:(Ff.num o Ff.Ed).2=0
 case neg=>
  simp only[auR (show (Ff.num o Ff.Ed).2≠0 from j),rs,i_t,iO];exact bad λk=>j k.2.2.2
 simp only[auQ (show ¬(Ff.num o Ff.Ed).2≠0 fromλh=>h j),rs,i_f];rw[auP ⟨f,g,i,j⟩] at b;rw[akO];refine I5 0 _ a rfl λB a=>?_;exact mP (bG (a.agg 0 rfl F3)) pV (d _ _ m _ 2 a rfl hle (by rw[<-b];rfl))
theorem Te (o:Ob)(v:aq)(M:Mem)(w:ao)(hw:o.wt<=100000000000)(f:M.has w)(g:OV M.A M.w v o):lA ah 85 #[v] M w (λr _=>r=.bool (!Ff.eight o)):=by
 obtain⟨vk,vc,cs,rfl,i⟩:=g.open;refine aO f λK c=>BL ?_;generalize b:Ff.eight o=X at c;unfold Ff.eight at b;unfold rK nz;refine dD o i.keys.one i.kids.one (dQ.memS f) λb2 l a=>?_;rw[oV a 0 rfl];refine aY a 1 rfl (kX o _ Ff.SR M l hw (a.hasM 1 rfl) g) ?_;rintro _ N w2 hle ⟨t,rfl,d⟩ a;obtain⟨m,n,rfl,d⟩:=iC d;simp only[G5,ex];refine dF a λp s a=>?_;refine bK 0 d.oneK d.oneC a rfl λq a=>?_;have a:dQ M.A w q [obE p ((Vl.get o Ff.SR).getD Vl.ob0) m n,obE b2 o vk vc,.mem N]:=a;cases j:Vl.get o Ff.SR with
|none=>
  rw[j] at b a;simp only[awT,rs,iO];exact c _ _ N _ 2 a rfl hle (by rw[<-b];rfl)
|some x=>
  rw[j] at b a;dsimp only at b;rw[awN] at a;simp only[awU,rs];rw[cO,zn a 0 rfl];simp only[rs];by_cases e:x.k=2
  ·simp only[auQ (show ¬x.k≠2 fromλh=>h e),rs];rw[oA,Dr a 0 rfl];simp only[rs];exact c _ _ N _ 2 a rfl hle (by rw[<-b,e];simp)
  ·simp only[auR (show x.k≠2 from e),rs,iO];exact c _ _ N _ 2 a rfl hle (by rw[<-b,auQ e];rfl)
theorem QX (h:SlA M.A M.w vc 6 os.length cs)(c:OVs M.A M.w cs os)(hi:i < os.length) :
  ∃b off vk d,(∀W,(mIA 23 vc (ad (i:Int))).run ah W=.ok (.value (af b off)) W)∧OV M.A M.w (obV os[i] vk d) os[i] ∧
   ∀W,M.has W->∀j u,(obC os[i] vk d)[j]?=ax u->W.cell? ⟨b,off+j,aw⟩=ax u:=by
 obtain⟨b,off,cap,rfl,_⟩:=bQ h.1 om;obtain⟨a,v,e,f⟩:=OVs.get _ _ i hi c;obtain⟨vk,d,o,he,p⟩:=e.open;have q:a=obC os[i] vk d:=by
  unfold obV at he
  injection he with he
  exact congrArg Array.toList he
 subst q;refine⟨b,off+i*6,vk,d,λW=>?_,e,λW r j u s=>?_⟩
 ·have:=cR (P:=ah) (T:=23) (b:=b) (off:=off) (cap:=cap) (n:=os.length) (k:=.i64) (i:=(i:Int)) (w:=W) avI Me om om
  rwa [auW] at this
 ·obtain⟨x,l,m,g,t⟩:=bQ (h.now r) om;cases g;rw[axK];exact t _ _ (f j u s)
theorem PO {l:List (List UInt8)}(a:SlA M.A M.w v 1 l.length (bT l))(hi:i < l.length) :
  ∃p,(∀W,(mIA 22 v (ad (i:Int))).run ah W=.ok (.value (.pointer (ax p))) W)∧∀W,M.has W->(aG 9 (.pointer (ax p))).run ah W=.ok (.value (.string ⟨l[i].toArray⟩)) W:=by
 obtain⟨b,off,cap,rfl,_⟩:=bQ a.1 om;refine⟨⟨b,off+i,aw⟩,λW=>?_,λW e=>?_⟩
 ·have:=cR (P:=ah) (T:=22) (b:=b) (off:=off) (cap:=cap) (n:=l.length) (k:=.i64) (i:=(i:Int)) (w:=W) avH (show _=ax 1 by kernel_rfl) om om;rw[auW,avQ] at this;exact this
 ·obtain⟨g,c,d,he,f⟩:=bQ (a.now e) om;cases he;exact aB BZ (f i _ (eO hi))
theorem XU (x:Pm):(pmC x).length=3:=rfl
theorem pmAt {l:List Pm}(a:SlA M.A M.w v 3 l.length (l.flatMap pmC))(hi:i < l.length) :
  ∃p,(∀W,(mIA 75 v (ad (i:Int))).run ah W=.ok (.value (.pointer (ax p))) W)∧∀W,M.has W->(aG 73 (.pointer (ax p))).run ah W=.ok (.value (pmV l[i])) W:=by
 obtain⟨b,off,cap,rfl,_⟩:=bQ a.1 om;refine⟨⟨b,off+i*3,aw⟩,λW=>?_,λW e=>?_⟩
 ·have:=cR (P:=ah) (T:=75) (b:=b) (off:=off) (cap:=cap) (n:=l.length) (k:=.i64) (i:=(i:Int)) (w:=W) azG szPm om om;rw[auW] at this;exact this
 ·obtain⟨h,c,d,he,f⟩:=bQ (a.now e) om;cases he;refine bC (AtV.agg F3 (cs:=pmC l[i]) rfl λj u g=>?_);rw[axK];exact f _ _ (Eng.uY XU hi g)
abbrev FG (v:aq)(l:List Pm):Ent:=.recs 73 pmC 3 v l
abbrev stsE (v:aq)(l:List (List UInt8)):Ent:=.urow 9 1 v l.length (bT l)
theorem elPm:elB ah 73 3 24=true:=krx
section
variable {w:ao}{PK PK2:PKT}{K:VWP}{S:Nat->Prop}{w0:ao}{L:List Ent}
theorem TO (x:Pm){l:List Pm}{c:Array Bool}(a:dQ S w0 w (FG v l::L))(d:l.length<=1000000000)(k:∀v' W,dQ S w0 W (FG v' (l++[x])::L)->K v' W) :
  DoX ah (bJ 75 1 #[(0,pmV x)]) w PK λt w=>DoX ah (mB .append #[75,75] 75 c #[v,t]) w PK2 K:=by
 refine bB (λb=>cW b 0 1 1) (pmC x) 73 (λ_=>by kernel_rfl) a λb f a=>?_;refine bN 1 azG elPm dc a rfl (gX (a.at_ 0 rfl) dc rfl) ME om om λv' w2 a=>k v' w2 ?_;have e:FG v' (l++[x])=.urow 73 3 v' (l.length+1) (l.flatMap pmC++pmC x):=by
  unfold FG Ent.recs;rw[auU,axH,ayO];rfl
 rw[e];exact a.tail
theorem UM (x:List UInt8){l:List (List UInt8)}{c:Array Bool}(a:dQ S w0 w (stsE v l::L))(d:l.length<=1000000000)(k:∀v' W,dQ S w0 W (stsE v' (l++[x])::L)->K v' W) :
  DoX ah (bJ 22 1 #[(0,ae x)]) w PK λt w=>DoX ah (mB .append #[22,22] 22 c #[v,t]) w PK2 K:=by
 refine bB (λb=>cW b 0 1 1) [ae x] 9 (λ_=>by kernel_rfl) a λb f a=>?_;refine bN 1 avH (show elB ah 9 1 16=av by kernel_rfl) dc a rfl (gX (a.at_ 0 rfl) dc rfl) (λu hu=>by rw[avV.1 hu];rfl) om om λv' w2 a=>k v' w2 ?_;have e:stsE v' (l++[x])=.urow 9 1 v' (l.length+1) (bT l++[ae x]):=by
  unfold stsE bT;rw[auU,avT];rfl
 rw[e];exact a.tail
theorem Py (g:dQ S w0 w (obE b o vk vc::L))(i:Nat)(hi:L[i]?=ax (.mem M))(d:OV M.A M.w (obV o vk vc) o) :
  ∃N:Mem,M.le N∧SlA N.A N.w (cW b 0 1 1) 6 1 (obC o vk vc)∧OVs N.A N.w (obC o vk vc) [o]∧dQ S w0 w (L.set i (.mem N)):=by
 have j:=g.at_ 0 rfl;obtain⟨N,h,k,m,n⟩:=g.freeze i hi;refine⟨N,h,⟨?_,λp l c e _=>?_,λa l c e=>?_⟩,?_,n⟩
 ·rw[k];exact gX j dc rfl
 ·injection e with f _ _
  injection f with f
  rw[<-f];exact m b rfl
 ·injection e with _ q r
  omega
 ·have:=OVs.snoc (a:=obC o vk vc) rfl (d.le h) [] [] OVs.nil;exact this
end
namespace Cs
def has (o:Ob)(a:List (List UInt8)):List (List UInt8×Ob):=a.filterMap λk=>(Vl.get o k).map λv=>(k,v)
def ofL (l:List (List UInt8×Ob)):Ob:=.mk 7 0 0 [] (l.map (·.1)) (l.map (·.2))
def IB (o:Ob):Ob:=if (o.k≠7∧o.k≠9)∨Vl.check 1 o≠0 then ofL [] else ofL (has o cr)
theorem Ua (o:Ob)(a:List (List UInt8))(k:List UInt8):has o (a++[k])=has o a++(match Vl.get o k with|some v=>[(k,v)]|none=>[]):=by
 unfold has;rw[List.filterMap_append]
 congr 1
 cases h:Vl.get o k<;>simp[h]
theorem ajE (o:Ob)(a:List (List UInt8)):(has o a).length<=a.length:=List.length_filterMap_le _ _
end Cs
section
variable {w:ao}{PK:PKT}{K:VWP}{S:Nat->Prop}{w0:ao}{L T:List Ent}
abbrev DcR (a cv:aq)(l:List (List UInt8×Ob))(ds:List aq)(b:Nat)(T:List Ent):List Ent:=
 .urow 9 1 a l.length (bT (l.map (·.1)))::.urow 25 6 cv l.length ds::obE b (ob1 7 0 0 []) a cv::T
end
theorem getD_some {k:List UInt8}{x:Ob}(h:Vl.get o k=ax x):(Vl.get o k).getD Vl.ob0=x:=by rw[h];rfl
theorem Qt (o:Ob)(v:aq)(M:Mem)(w:ao)(hw:o.wt<=100000000000)(hM:M.has w)(X:OV M.A M.w v o):lA ah 60 #[v] M w (λr N=>OV N.A N.w r (Cs.IB o)):=by
 obtain⟨vk,vc,cs,rfl,ha⟩:=X.open;refine aO hM λK hK=>IZ ?_;unfold EJ nz;refine dD o ha.keys.one ha.kids.one (dQ.memS hM) λb w1 a=>?_;refine dF a λb2 w2 a=>?_;rw[apW];refine dF a λb3 w3 a=>?_;refine bK (o':=ob1 7 0 0 []) (vk':=dY) (vc':=dY) 0 rfl rfl a rfl λC a=>?_;have a:dQ M.A w C [obE b3 (ob1 7 0 0 []) dY dY,obE b2 ob0 dY dY,obE b o vk vc,.mem M]:=a;rw[cO,zn a 2 rfl];have no:∀{W:ao},dQ M.A w W [obE b3 (ob1 7 0 0 []) dY dY,obE b2 ob0 dY dY,obE b o vk vc,.mem M]->Cs.IB o=Cs.ofL []->DoX ah (aG 25 (af b3 0)) W (pk K) (λt22 w=>DoX ah (aV 25 (af b2 0) t22) w (pk K) λ_ w=>zu ah [.cell (af b2 0) 25] w K):=by
  intro W a he;rw[oV a 0 rfl];refine bK 1 rfl rfl a rfl λC a=>?_;have a:dQ M.A w C [obE b3 (ob1 7 0 0 []) dY dY,obE b2 (ob1 7 0 0 []) dY dY,obE b o vk vc,.mem M]:=a;refine gC (bG (a.agg 1 rfl mQ)) (hK _ _ M _ 3 a rfl M.le_refl ?_);rw[he];exact zz.ov (o:=Cs.ofL []) (vk:=dY) (vc:=dY) (cs:=[]) ⟨SlA.nil _ _ _ _,SlA.nil _ _ _ _,.nil⟩
 have main:(o.k=7∨o.k=9)->∀{W:ao},dQ M.A w W [obE b3 (ob1 7 0 0 []) dY dY,obE b2 ob0 dY dY,obE b o vk vc,.mem M]->Vl.check 1 o=0->eN ah 101 #[] W (pk K) (λt23 w=>
 DoX ah (mB .len #[22] 3 #[au] #[t23]) w (pk K) λt24 w=>
 zr [(ad 0)] w (λn w q=>∀_:Sg,jA (af b 0) (af b2 0) (af b3 0) t23 t24 (n.getD 0 undef) w q K)):=by
  intro Y W a D;have het:Cs.IB o=Cs.ofL (Cs.has o cr):=by
   unfold Cs.IB;rw[auO];rintro (⟨h1,h2⟩|h);·rcases Y with h|h;exact h1 h;exact h2 h
   exact h D
  refine aY a 3 rfl (Xr M W (a.hasM 3 rfl)) λkl q w5 l1 F a=>?_;rw[aS avH (F.now (a.hasM 3 rfl))];have a:=dQ.nilU a 25 6;have a:=dQ.nilU a 9 1;refine loop (λvs W=>∃(i:Nat) (f cv:aq) (ds:List aq) (N:Mem),vs=[ad (i:Int)]∧i<=3∧q.le N∧OVs N.A N.w ds ((Cs.has o (cr.take i)).map (·.2))∧dQ M.A w W (DcR f cv (Cs.has o (cr.take i)) ds b3 [obE b2 ob0 dY dY,obE b o vk vc,.mem N])) (λvs _=>3 - n0 vs) ⟨0,dY,dY,[],q,rfl,om,q.le_refl,.nil,a⟩ ?_;clear a;rintro vs Q ⟨i,f,cv,ds,N,rfl,hi,S,m,a⟩ _;simp only[jA,gd,rs,nz];by_cases G:(i:Int) < ((3:Nat):Int)
  ·simp only[auR G,i_t];have H:i < cr.length:=by show i < 3;omega
   refine join λJ hJ=>?_;obtain⟨p,Z,a1⟩:=PO (l:=cr) (F.le S) H;rw[aC (Z Q),aC (a1 Q (a.hasM 5 rfl)),oV a 4 rfl];refine aY a 5 rfl (DZ o _ cr[i] N Q hw (a.hasM 5 rfl) ((X.le l1).le S)) ?_;rintro _ g w7 l3 ⟨xv,rfl,hx⟩ a;obtain⟨s,t,b4,rfl,c⟩:=hx.open;simp only[G5,ex];refine dF a λT w8 a=>?_;refine bK 0 c.keys.one c.kids.one a rfl λw9 a=>?_;have I:cr.take (i+1)=cr.take i++[cr[i]]:=avP H;have hlen:=Cs.ajE o (cr.take i);rw[avA] at hlen;have next:∀{W:ao} {kv' cv':aq} {ds':List aq},OVs g.A g.w ds' ((Cs.has o (cr.take (i+1))).map (·.2))->dQ M.A w W (DcR kv' cv' (Cs.has o (cr.take (i+1))) ds' b3 [obE b2 ob0 dY dY,obE b o vk vc,.mem g])->J [] W:=by
    intro W kv' cv' ds' O a;refine hJ _ _ λ_=>?_;simp only[A8,rs,nz];rw[aA om om];exact aU ⟨i+1,kv',cv',ds',g,rfl,om,S.trans l3,O,a⟩ (by simp[n0,RowKit.intOf];omega)
   cases hg:Vl.get o cr[i] with
  |none=>
    simp only[awT,i_f];have e:Cs.has o (cr.take (i+1))=Cs.has o (cr.take i):=by rw[I,Cs.Ua,hg];simp
    exact next (by rw[e];exact m.le l3) (by rw[e];exact a.tail)
  |some x=>
    simp only[awU,i_t];rw[getD_some hg] at hx a c;have e:Cs.has o (cr.take (i+1))=Cs.has o (cr.take i)++[(cr[i],x)]:=by rw[I,Cs.Ua,hg]
    generalize Cs.has o (cr.take i)=d at *;have a:dQ M.A w w9 [obE T x s t,.urow 9 1 f d.length (bT (d.map (·.1))),.urow 25 6 cv d.length ds,obE b3 (ob1 7 0 0 []) f cv,obE b2 ob0 dY dY,obE b o vk vc,.mem g]:=a;rw[qZ,eP a 3 rfl];refine R9 cr[i] a λnb b5 a=>?_;refine atA 2 a rfl (a.sl 0 rfl 1 1 1 rfl) (by simp[Value.oneCell']) om λkv' a6 a=>?_;have a:=a.tail;have a:dQ M.A w a6 [obE T x s t,.urow 9 1 kv' (d.length+1) (bT (d.map (·.1))++[.string ⟨cr[i].toArray⟩]),.urow 25 6 cv d.length ds,obE b3 (ob1 7 0 0 []) f cv,obE b2 ob0 dY dY,obE b o vk vc,.mem g]:=a;have u:=cP (a.at_ 1 rfl);rw[qZ];refine aK 3 a rfl krx u (show 0+4 < 6 by omega) λa7 a=>?_;have a:dQ M.A w a7 [obE T x s t,.urow 9 1 kv' (d.length+1) (bT (d.map (·.1))++[.string ⟨cr[i].toArray⟩]),.urow 25 6 cv d.length ds,obE b3 (ob1 7 0 0 []) kv' cv,obE b2 ob0 dY dY,obE b o vk vc,.mem g]:=a;rw[eW,bW a 3 rfl,oV a 0 rfl];refine JH x c.keys.one c.kids.one a λb7 b8 a=>?_;refine Ve 3 a rfl (a.sl 0 rfl 6 1 1 rfl) (mT _ c.keys.one c.kids.one) om λcv' a8 a=>?_;have a:=a.tail;have a:dQ M.A w a8 [obE T x s t,.urow 9 1 kv' (d.length+1) (bT (d.map (·.1))++[.string ⟨cr[i].toArray⟩]),.urow 25 6 cv' (d.length+1) (ds++obC x s t),obE b3 (ob1 7 0 0 []) kv' cv,obE b2 ob0 dY dY,obE b o vk vc,.mem g]:=a;have y:=cP (a.at_ 2 rfl);rw[eW];refine aK 3 a rfl krx y (show 0+5 < 6 by omega) λb0 a=>?_;have a:=a.tail;refine next (kv':=kv') (cv':=cv') (ds':=ds++obC x s t) ?_ ?_
    ·rw[e,avT];exact dX (m.le l3) (tP hx)
    ·rw[e];show dQ M.A w b0 [.urow 9 1 kv' (d++[(cr[i],x)]).length (bT ((d++[(cr[i],x)]).map (·.1))),.urow 25 6 cv' (d++[(cr[i],x)]).length (ds++obC x s t),obE b3 (ob1 7 0 0 []) kv' cv',obE b2 ob0 dY dY,obE b o vk vc,.mem g];rw[auU,avT,MN];exact a
  simp only[auQ G,i_f];have:i=3:=om
  subst this;rw[show cr.take 3=cr from rfl] at m a;have u:=cP (a.at_ 0 rfl);have y:=cP (a.at_ 1 rfl);obtain⟨g,hle,P,a⟩:=dQ.bH (L:=[.urow 25 6 cv (Cs.has o cr).length ds,obE b3 (ob1 7 0 0 []) f cv,obE b2 ob0 dY dY,obE b o vk vc,.mem N]) a 4 rfl;obtain⟨z,j,B,a⟩:=dQ.bH (L:=[obE b3 (ob1 7 0 0 []) f cv,obE b2 ob0 dY dY,obE b o vk vc,.mem g]) a 3 rfl;have a:dQ M.A w Q [obE b3 (ob1 7 0 0 []) f cv,obE b2 ob0 dY dY,obE b o vk vc,.mem z]:=a;rw[oV a 0 rfl];refine bK 1 u y a rfl λw7 a=>?_;have a:dQ M.A w w7 [obE b3 (ob1 7 0 0 []) f cv,obE b2 (ob1 7 0 0 []) f cv,obE b o vk vc,.mem z]:=a;refine gC (bG (a.agg 1 rfl mQ)) (hK _ _ z _ 3 a rfl (((l1.trans S).trans hle).trans j) ?_);rw[het];refine zz.ov (o:=Cs.ofL (Cs.has o cr)) (vk:=f) (vc:=cv) (cs:=ds) ⟨?_,?_,(m.le (hle.trans j))⟩
  ·show SlA z.A z.w f 1 ((Cs.has o cr).map (·.1)).length (bT ((Cs.has o cr).map (·.1)));rw[avS];exact P.le j
  ·show SlA z.A z.w cv 6 ((Cs.has o cr).map (·.2)).length ds;rw[avS];exact B
 have rest:(o.k=7∨o.k=9)->GDo (.bool au) au (λE=>DoX ah (aG 25 (af b 0)) C (pk K) E) C λt18 w=>
 GDo (.bool au) au (λE=>eN ah 32 #[t18] w (pk K) E) w λt19 w=>
 GDo (.bool au) au (λE=>DoX ah (mEq .neq 35 (.tmp 19) (.const (ad 0)) t19 (ad 0)) w (pk K) E) w λt20 w=>
 DoX ah (fK (.bool au) (.bool av) t20) w (pk K) λt21 w=>
 IfX t21 (DoX ah (aG 25 (af b3 0)) w (pk K) λt22 w=>
 DoX ah (aV 25 (af b2 0) t22) w (pk K) λ_ w=>
 zu ah [.cell (af b2 0) 25] w K) (eN ah 101 #[] w (pk K) λt23 w=>
 DoX ah (mB .len #[22] 3 #[au] #[t23]) w (pk K) λt24 w=>
 zr [(ad 0)] w (λn w q=>∀_:Sg,jA (af b 0) (af b2 0) (af b3 0) t23 t24 (n.getD 0 undef) w q K)):=by
  intro Y;simp only[rs];rw[oV a 2 rfl];refine aI a (R:=λv=>v=ad (Vl.check 1 o)) (jF o _ C (OV.inw (a.hasM 3 rfl) X) om) ?_;rintro _ w5 rfl a;simp only[bO,rs];by_cases D:Vl.check 1 o=0
  ·simp only[D,show ai ((0:Int)≠0)=au from rfl,i_f];exact main Y a D
  ·simp only[auR (show Vl.check 1 o≠0 from D),i_t];exact no a (by unfold Cs.IB;rw[auP (.inr D)])
 simp only[rs];by_cases U:o.k=7
 ·simp only[auQ (show ¬o.k≠7 fromλh=>h U),rs,iO];have:=rest (.inl U);simp only[rs] at this;exact this
 simp only[auR (show o.k≠7 from U),rs];rw[cO,zn a 2 rfl];simp only[rs];by_cases V:o.k=9
 ·simp only[auQ (show ¬o.k≠9 fromλh=>h V),rs,iO];have:=rest (.inr V);simp only[rs] at this;exact this
 simp only[auR (show o.k≠9 from V),rs,iO,i_t];exact no a (by unfold Cs.IB;rw[auP (.inl ⟨U,V⟩)])
end
end Go.Proofs.YtkghomgfocpgeaaGreatDoor











namespace Go.Proofs.YtkghomgfocpgeaaGreatDoor
variable{K:VWP}{L:List Eng.Ent}{M:Eng.Mem}{P:Program}{PK PK2:PKT}{S:Nat->Prop}{W w w0:ao}{a:Int}{aj:List (Nat×List Nat)}{b cap d i id j:Nat}{cb:Array Bool}{cs:List aq}{fn:Func}{key:List UInt8}{o:Ob}{os:List Ob}{q:Bool}{t0 t1 v vc vk:aq}{u:FrameMode}{x:Pm}{xo yo:Operand}{t0 t1 t2 t3:aq}{k0:Eng.KT}
section
open Go
namespace Ps
open Lx (next Tok TT)
open Wr (num parts WX XC)
def At (s:List UInt8)(a:Int)(p:List UInt8)(b:Int):Prop:=∃(x:Tok) (a':Int),TT p x∧next s a=({ x with a:=a',t:=b },0)
def Toks (s:List UInt8):Int->List (List UInt8)->Int->Prop
|a,[],b=>a=b
|a,p::ps,b=>∃c,At s a p c∧Toks s c ps b
end Ps
end
end Go.Proofs.YtkghomgfocpgeaaGreatDoor















namespace Go.Proofs.YtkghomgfocpgeaaGreatDoor
variable{K:VWP}{L:List Eng.Ent}{M:Eng.Mem}{P:Program}{PK PK2:PKT}{S:Nat->Prop}{W w w0:ao}{a:Int}{aj:List (Nat×List Nat)}{b cap d i id j:Nat}{cb:Array Bool}{cs:List aq}{fn:Func}{key:List UInt8}{o:Ob}{os:List Ob}{q:Bool}{t0 t1 v vc vk:aq}{u:FrameMode}{x:Pm}{xo yo:Operand}{t0 t1 t2 t3:aq}{k0:Eng.KT}
section
open Go
structure Slt where
 num:Int
 kind:Int
 a:Int
 b:Int
 deriving DecidableEq
structure Sec where
 at_:Int
 aR:List Slt
 trailer:Ob
 prev:Int
 hybrid:Int
 own:Int
namespace Tl
open Lx (next Tok)
def zJ:Sec:=⟨0,[],Vl.ob0,0,0,0⟩
def okS (x:Slt):Int:=
 if x.num < 0∨8191 < x.num then 2 else if x.kind < 0∨2 < x.kind then 10
 else if x.kind=2 then (if x.a < 1∨8191 < x.a∨x.b < 0∨8191 < x.b then 2 else 0) else if x.a < 0∨2147483647 < x.a∨x.b < 0∨65535 < x.b then 2 else 0
def AQ:Option Int->List Slt->Int
|_,[]=>0
|last,x::l=>if okS x≠0 then okS x else if last.any (λn=>ai (x.num=n)) then 9 else if last.any (λn=>ai (x.num < n)) then 1 else AQ (ax x.num) l
def check (l:List Slt):Int:=AQ aw l
end Tl
end
section
open Eng
def I3(t0 w)(K:KT):=nz f56 1 [] [] [] (zg [0] [t0]) w K
theorem Mg:I3 t0 w k0->Calls ah 56 #[t0] w k0:=cw func56
def BW(t0 t5 t6 t7 w)(a:JT)(K:KT):=nz f31 21 [a] [nh 5 [7]] [(10,14),(12,14)] (zg [0,5,6,7] [t0,t5,t6,t7]) w K
def Ht(t0 w)(K:KT):=nz f31 1 [] [(5,[7],λs v j w f=>BW (s 0) (s 5) (s 6) (vg v 0) w (f 0) K)] [] (zg [0] [t0]) w K
theorem Ks:Ht t0 w k0->Calls ah 31 #[t0] w k0:=cz [] [(2,[7])] func31
def Fo(t3 t8 w)(a:JT)(K:KT):=nz f61 491 [a] [nh 7 [3,8]] [] (zg [3,8] [t3,t8]) w K
def Fm(t0 t3 t6 t7 t8 w)(a:JT)(K:KT):=nz f61 43 [a] [nh 7 [3,8],(16,[3],λs v j w f=>Fo (vg v 0) (s 8) w (f 0) K)] [(5,25),(6,10)] (zg [0,3,6,7,8] [t0,t3,t6,t7,t8]) w K
def I9(t0 w)(K:KT):=nz f61 1 [] [(7,[3,8],λs v j w f=>Fm (s 0) (vg v 0) (s 6) (s 7) (vg v 1) w (f 0) K)] [] (zg [0] [t0]) w K
theorem KU:I9 t0 w k0->Calls ah 61 #[t0] w k0:=cz [(8,[3])] [(3,[3,8])] func61
end
section
open Eng Go.RowKit
namespace Eng
section
variable {S:Nat->Prop}{P:Program}{w w0:ao}{L:List Ent}{PK:PKT}{K:VWP}
end
end Eng
def slC (x:Slt):List Value:=[ad x.num,ad x.kind,ad x.a,ad x.b]
def slV (x:Slt):Value:=.agg (slC x).toArray
abbrev slE (b:Nat)(x:Slt):Ent:=.cells b (slC x) 42
def sl0:Slt:=⟨0,0,0,0⟩
theorem amU:By ah 42=ax 4:=krx
theorem szSl:(Tryz.prog.info? 42).map (·.size)=ax 4:=krx
theorem Yt (x:Slt):∀v∈slC x,v.oneCell'=true:=by
 intro v a;simp only[slC,avB,awS,or_false] at a;rcases a with rfl|rfl|rfl|rfl<;>rfl
theorem fs0:uM ah 42 0=ax 0:=krx
theorem fs1:uM ah 42 1=ax 1:=krx
theorem fs2:uM ah 42 2=ax 2:=krx
theorem fs3:uM ah 42 3=ax 3:=krx
section
variable {w:ao}{PK:PKT}{K:VWP}{S:Nat->Prop}{w0:ao}{L:List Ent}
theorem ZC {off:Nat}:DoX ah (mFA 42 (af b off) 0) w PK K=K (af b off) w:=aQ fs0
theorem L8 {off:Nat}:DoX ah (mFA 42 (af b off) 1) w PK K=K (af b (off+1)) w:=aQ fs1
theorem Nz {off:Nat}:DoX ah (mFA 42 (af b off) 2) w PK K=K (af b (off+2)) w:=aQ fs2
theorem OA {off:Nat}:DoX ah (mFA 42 (af b off) 3) w PK K=K (af b (off+3)) w:=aQ fs3
theorem auB (x:Slt)(a:dQ S w0 w L)(k:∀b w',dQ S w0 w' (slE b x::L)->K (af b 0) w'):DoX ah (AS 42 (slV x)) w PK K:=
 bB (λb=>af b 0) (slC x) 42 (λ_=>by kernel_rfl) a k
theorem Np (a:dQ S w0 w L)(k:∀b w',dQ S w0 w' (slE b sl0::L)->K (af b 0) w'):DoX ah (iM 42) w PK K:=
 bB (λb=>af b 0) (slC sl0) 42 (λ_=>by kernel_rfl) a k
theorem JE (i:Nat){x y:Slt}(a:dQ S w0 w L)(hi:L[i]?=ax (slE b x))(k:∀w',dQ S w0 w' (L.set i (slE b y))->K undef w') :
  DoX ah (aV 42 (af b 0) (slV y)) w PK K:=gF i a hi (new:=slC y) szSl (Yt y) rfl k
theorem sl_v (a:dQ S w0 w L)(i:Nat){x:Slt}(hi:L[i]?=ax (slE b x)):DoX ah (aG 42 (af b 0)) w PK K=K (slV x) w:=AT (a.agg i hi amU)
end
section
variable {w:ao}{PK:PKT}{K:VWP}{S:Nat->Prop}{w0:ao}{L:List Ent}
end
section
variable {w:ao}{PK:PKT}{K:VWP}{S:Nat->Prop}{w0:ao}{L:List Ent}
end
end
section
open Eng
def lZ(t0 t3 t4 w)(a:JT)(K:KT):=nz f28 2005 [a] [nh 5 [3]] [(14,13),(16,13)] (zg [0,3,4] [t0,t3,t4]) w K
def mJ(t0 t3 w)(a:JT)(K:KT):=nz f28 21 [a] [nh 5 [3],(28,[],λs v j w f=>lZ (s 0) (s 3) (s 4) w (f 0) K)] [] (zg [0,3] [t0,t3]) w K
def pU(t0 w)(K:KT):=nz f28 1 [] [(5,[3],λs v j w f=>mJ (s 0) (vg v 0) w (f 0) K)] [] (zg [0] [t0]) w K
theorem zY:pU t0 w k0->Calls ah 28 #[t0] w k0:=cz [(14,[])] [(2,[3])] func28
end
end Go.Proofs.YtkghomgfocpgeaaGreatDoor

namespace Go.Proofs.YtkghomgfocpgeaaGreatDoor
variable{K:VWP}{L:List Eng.Ent}{M:Eng.Mem}{P:Program}{PK PK2:PKT}{S:Nat->Prop}{W w w0:ao}{a:Int}{aj:List (Nat×List Nat)}{b cap d i id j:Nat}{cb:Array Bool}{cs:List aq}{fn:Func}{key:List UInt8}{o:Ob}{os:List Ob}{q:Bool}{t0 t1 v vc vk:aq}{u:FrameMode}{x:Pm}{xo yo:Operand}{t0 t1 t2 t3:aq}{k0:Eng.KT}
section
open Go
namespace Lx
open Oc
end Lx
namespace Tl
open Lx (Tok TT skip)
open Ps (At Toks)
def eF:List Slt->List Slt->List (List Slt)
|cur,[]=>if cur=[] then [] else [cur]
|cur,x::l=>match cur.getLast? with
 |none=>eF [x] l
 |some y=>if y.num < x.num∧x.num - 1=y.num then eF (cur++[x]) l else cur::eF [x] l
def Gp (l:List Slt):List (List Slt):=eF [] l
def first (g:List Slt):Int:=(g.head?.map (·.num)).getD 0
def run (g:List Slt):Int×Int:=(first g,(g.length:Int))
def runs (l:List Slt):List (Int×Int):=(Gp l).map run
end Tl
namespace Tl
open Lx (Tok TT skip next)
open Ps (At Toks)
def O9:Int->List Slt->Prop
|_,[]=>True
|n,x::l=>x.num=n∧O9 (n+1) l
theorem H7:∀{l:List Slt} {n:Int} {x:Slt},O9 n (l++[x])↔O9 n l∧x.num=n+l.length
|[],n,x=>by simp[O9]
|y::l,n,x=>by
  rw[ayP,O9,H7,O9,avR];constructor
  ·rintro⟨a,b,c⟩;exact⟨⟨a,b⟩,om⟩
  ·rintro⟨⟨a,b⟩,c⟩;exact⟨a,b,om⟩
theorem VS {l:List Slt}{n:Int}{y:Slt}(h:O9 n l)(a:l.getLast?=ax y):y.num=n+l.length - 1:=by
 obtain⟨m,rfl⟩:∃m,l=m++[y]:=by
  have:=List.getLast?_eq_some_iff.1 a;exact this
 have:=(H7.1 h).2;simp;omega
def Grp (g:List Slt):Prop:=g≠[]∧O9 (first g) g
theorem D7:∀(l cur:List Slt),(cur=[]∨Grp cur)->(eF cur l).flatten=cur++l∧∀g∈eF cur l,Grp g
|[],cur,h=>by
  rw[eF];split
  ·rename_i c;subst c;simp
  ·rename_i c
   rcases h with h|h
   ·exact absurd h c
   ·simp[h]
|x::l,cur,h=>by
  rw[eF];have j:Grp [x]:=⟨sm,by simp[O9,first]⟩;cases i:cur.getLast? with
 |none=>
   have c:cur=[]:=aAL.1 i;subst c;obtain⟨a,b⟩:=D7 l [x] (.inr j);simp only;exact⟨by rw[a];rfl,b⟩
 |some y=>
   have c:cur≠[]:=λe=>by rw[e] at i;cases i
   have d:Grp cur:=h.resolve_left c;simp only;split
   ·rename_i m
    have k:Grp (cur++[x]):=by
     refine⟨sm,?_⟩;have e:first (cur++[x])=first cur:=by
      cases cur with
     |nil=>exact absurd rfl c
     |cons _ _=>rfl
     rw[e];have:=VS d.2 i;exact H7.2 ⟨d.2,om⟩
    obtain⟨a,b⟩:=D7 l (cur++[x]) (.inr k);exact⟨by rw[a];simp,b⟩
   ·obtain⟨a,b⟩:=D7 l [x] (.inr j);refine⟨by rw[List.flatten_cons,a];simp,λg f=>?_⟩;rcases avB.1 f with rfl|f
    ·exact d
    ·exact b g f
theorem Lk (l:List Slt):(Gp l).flatten=l∧∀g∈Gp l,Grp g:=by
 have:=D7 l [] (.inl rfl);simpa[Gp] using this
end Tl
end
section
open Eng Go.RowKit
theorem ahZ (x:Slt):(slC x).length=4:=rfl
abbrev slsE (v:aq)(l:List Slt):Ent:=.recs 42 slC 4 v l
theorem elSl:elB ah 42 4 32=true:=krx
section
variable {w:ao}{PK:PKT}{K:VWP}{S:Nat->Prop}{w0:ao}{L:List Ent}
theorem alI (x:Slt)(a:dQ S w0 w L)(k:∀b w',dQ S w0 w' (slE b x::L)->K (cW b 0 1 1) w'):DoX ah (bJ 32 1 #[(0,slV x)]) w PK K:=
 bB (λb=>cW b 0 1 1) (slC x) 42 (λ_=>by kernel_rfl) a k
theorem aeR (i:Nat){l:List Slt}{x:Slt}(a:dQ S w0 w L)(hi:L[i]?=ax (slsE v l))(b:l.length<=1000000000)
  (k:∀v' w',dQ S w0 w' (L.set i (slsE v' (l++[x])))->K v' w') :
  DoX ah (bJ 32 1 #[(0,slV x)]) w PK λt w=>DoX ah (mB .append #[32,32] 32 cb #[v,t]) w PK2 K:=by
 refine alI x a λnb c a=>?_;refine bN (i+1) ayF elSl dc a (by rw[awH];exact hi) (a.sl 0 rfl 4 1 1 rfl) (Yt x) om om λv' w2 a=>k v' w2 ?_;have e:slsE v' (l++[x])=.urow 42 4 v' (l.length+1) (l.flatMap slC++slC x):=by
  rw[slsE,Ent.recs,auU,axH];simp
 rw[e];exact a.tail
end
end
end Go.Proofs.YtkghomgfocpgeaaGreatDoor

namespace Go.Proofs.YtkghomgfocpgeaaGreatDoor
variable{K:VWP}{L:List Eng.Ent}{M:Eng.Mem}{P:Program}{PK PK2:PKT}{S:Nat->Prop}{W w w0:ao}{a:Int}{aj:List (Nat×List Nat)}{b cap d i id j:Nat}{cb:Array Bool}{cs:List aq}{fn:Func}{key:List UInt8}{o:Ob}{os:List Ob}{q:Bool}{t0 t1 v vc vk:aq}{u:FrameMode}{x:Pm}{xo yo:Operand}{t0 t1 t2 t3:aq}{k0:Eng.KT}
section
open Eng Go.RowKit
def SY (x:Slt):Bool:=if x.kind=2 then ai (1<=x.a)&&ai (x.a<=8191)&&ai (0<=x.b)&&ai (x.b<=8191) else ai (0<=x.a)&&ai (x.a<=2147483647)&&ai (0<=x.b)&&ai (x.b<=65535)
theorem Xt (x:Slt)(w:ao):Ret ah 56 #[slV x] w (λv w'=>v=.bool (SY x)∧Below w.heap.size w w'):=by
 refine aL λK m=>Mg ?_;unfold I3 nz;refine auB x (Own.start w) λb c h=>?_;have j:∀{PK:PKT} {K:VWP},DoX ah (aG 3 (af b (0+1))) c PK K=K (ad x.kind) c:=aH aW (h.cell 0 rfl 1 rfl);have k:∀{PK:PKT} {K:VWP},DoX ah (aG 3 (af b (0+2))) c PK K=K (ad x.a) c:=aH aW (h.cell 0 rfl 2 rfl);have l:∀{PK:PKT} {K:VWP},DoX ah (aG 3 (af b (0+3))) c PK K=K (ad x.b) c:=aH aW (h.cell 0 rfl 3 rfl);have fin:∀{q:Bool},q=SY x->K (.returned (.bool q)) c:=λe=>m _ _ ⟨by rw[e],h.done⟩;unfold SY at fin;by_cases i:x.kind=2
 ·rw[auP i] at fin;by_cases d:1<=x.a<;>by_cases f:x.a<=8191<;>by_cases g:0<=x.b
  all_goals
   simp only[rs,L8,Nz,OA,j,k,l,i,auS,d,f,g,auT,iO];exact fin (by simp[d,f,g])
 ·rw[auO i] at fin;by_cases d:0<=x.a<;>by_cases f:x.a<=2147483647<;>by_cases g:0<=x.b
  all_goals
   simp only[rs,L8,Nz,OA,j,k,l,i,auS,d,f,g,auT,iO];exact fin (by simp[d,f,g])
abbrev Il (l:List Slt):List Value:=l.flatMap slC
theorem rS {l:List Slt}(a:SlA M.A M.w v 4 l.length (Il l))(hi:i < l.length) :
  ∃(b off:Nat),∀W,M.has W->(mIA 32 v (ad (i:Int))).run ah W=.ok (.value (af b off)) W∧∀j u,(slC l[i])[j]?=ax u->W.cell? ⟨b,off+j,aw⟩=ax u:=by
 obtain⟨b,off,cap,rfl,_⟩:=bQ a.1 om;refine⟨b,off+i*4,λW c=>⟨?_,λj u d=>?_⟩⟩
 ·have:=cR (P:=ah) (T:=32) (b:=b) (off:=off) (cap:=cap) (n:=l.length) (k:=.i64) (i:=(i:Int)) (w:=W) ayF szSl om om;rw[auW] at this;exact this
 ·have:=Sl.cellAt (a.now c) (i*4+j) u (Eng.uY ahZ hi d)
  rwa [<-axK] at this
theorem DN {off:Nat}{x:Slt}(h:∀j u,(slC x)[j]?=ax u->W.cell? ⟨b,off+j,aw⟩=ax u):(aG 42 (af b off)).run ah W=.ok (.value (slV x)) W:=
 bC (AtV.agg amU (cs:=slC x) rfl h)
theorem KO {off:Nat}{x:Slt}(h:∀j u,(slC x)[j]?=ax u->W.cell? ⟨b,off+j,aw⟩=ax u):(aG 3 (af b off)).run ah W=.ok (.value (ad x.num)) W:=
 aB aW (h 0 _ rfl)
namespace Tl
def Es (l:List Slt):Nat->Option Int
|0=>aw
|i+1=>(l[i]?).map (·.num)
theorem Mm {l:List Slt}(hi:i < l.length):AQ (Es l i) (l.drop i)=if okS l[i]≠0 then okS l[i] else if (Es l i).any (λn=>ai (l[i].num=n)) then 9 else if (Es l i).any (λn=>ai (l[i].num < n)) then 1 else AQ (Es l (i+1)) (l.drop (i+1)):=by
 rw[avW hi,AQ,Es,auX hi];rfl
end Tl
theorem adJ (x:Slt):Tl.okS x=if x.num < 0∨8191 < x.num then 2 else if x.kind < 0∨2 < x.kind then 10 else if SY x then 0 else 2:=by
 unfold Tl.okS SY;by_cases c:x.num < 0∨8191 < x.num
 ·rw[auP c,auP c]
 by_cases e:x.kind < 0∨2 < x.kind
 ·rw[auO c,auP e,auO c,auP e]
 rw[auO c,auO e,auO c,auO e];by_cases f:x.kind=2
 ·rw[auP f,auP f];by_cases d:x.a < 1∨8191 < x.a∨x.b < 0∨8191 < x.b
  ·rw[auP d,auO (by simp;omega)]
  ·rw[auO d,auP (by simp;omega)]
 ·rw[auO f,auO f];by_cases d:x.a < 0∨2147483647 < x.a∨x.b < 0∨65535 < x.b
  ·rw[auP d,auO (by simp;omega)]
  ·rw[auO d,auP (by simp;omega)]
section
variable {S:Nat->Prop}{w w0:ao}{L:List Ent}
theorem TD {l:List Slt}{x:Slt}(jx jm:Nat)(d:dQ S w0 w L)(o:L[jx]?=ax (slE b x))(hm:L[jm]?=ax (.mem M))(p:SlA M.A M.w v 4 l.length (Il l))(hi:i<=l.length)(a:l.length<=1000000000000){F:VWP}
  (h:∀W,dQ S w0 W L->F (.bool ((Tl.Es l i).any λn=>ai (x.num=n))) W) :
  zp w (λc=>
 QDo ah c (gS .gtr 3 (ad (i:Int)) (ad 0)) λt36=>
 GQ t36 av (λE=>QDo ah c (mFA 42 (af b 0) 0) E) λt38=>
 GQ t36 av (λE=>QDo ah c (aG 3 t38) E) λt39=>
 GQ t36 av (λE=>E v) λt40=>
 GQ t36 av (λE=>E (ad (i:Int))) λt41=>
 GQ t36 av (λE=>QDo ah c (gS .sub 3 t41 (ad 1)) E) λt42=>
 GQ t36 av (λE=>QDo ah c (mIA 32 t40 t42) E) λt43=>
 GQ t36 av (λE=>QDo ah c (mFA 42 t43 0) E) λt44=>
 GQ t36 av (λE=>QDo ah c (aG 3 t44) E) λt45=>
 GQ t36 av (λE=>QDo ah c (mEq .eql 3 xo yo t39 t45) E) λt46=>
 QDo ah c (fK t36 t46 (.bool au)) λt47=>
 ∀w,c w->F t47 w):=by
 refine quiet ?_;rcases axG i with k|k
 ·subst k;refine J6 ?_;simp only[show ai ((0:Int) < ((0:Nat):Int))=au by decide,gq,K4];exact B0 λW a=>h W (d.grow a)
 obtain⟨j,rfl⟩:∃j,i=j+1:=⟨i - 1,om⟩;have q:(0:Int) < ((j+1:Nat):Int):=om
 have f:IntKind.wrap .i64 (((j+1:Nat):Int) - 1)=(j:Int):=by rw[aA om om];omega
 obtain⟨g,off,m⟩:=rS p (i:=j) om;refine J6 ?_;simp only[auR q,gq,K4];refine eZ _ (λ_=>bE fs0) ?_;refine kE (ad x.num) (λ_ a=>aB aW ((d.grow a).cell jx o 0 rfl)) ?_;refine eZ (ad (j:Int)) (λ_=>by rw[Cj,f]) ?_;refine kE _ (λW a=>(m W ((d.grow a).hasM jm hm)).1) ?_;refine eZ _ (λ_=>bE fs0) ?_;refine kE (ad l[j].num) (λW a=>KO (m W ((d.grow a).hasM jm hm)).2) ?_;refine q_eq ?_;refine H8 λW a=>?_;have e:Tl.Es l (j+1)=ax l[j].num:=by rw[Tl.Es,auX om];rfl
 have:=h W (d.grow a);rw[e] at this;exact this
theorem T8 {l:List Slt}{x:Slt}(jx jm:Nat)(d:dQ S w0 w L)(o:L[jx]?=ax (slE b x))(hm:L[jm]?=ax (.mem M))(p:SlA M.A M.w v 4 l.length (Il l))(hi:i<=l.length)(a:l.length<=1000000000000){F:VWP}
  (h:∀W,dQ S w0 W L->F (.bool ((Tl.Es l i).any λn=>ai (x.num < n))) W) :
  zp w (λc=>
 QDo ah c (gS .gtr 3 (ad (i:Int)) (ad 0)) λt36=>
 GQ t36 av (λE=>QDo ah c (mFA 42 (af b 0) 0) E) λt38=>
 GQ t36 av (λE=>QDo ah c (aG 3 t38) E) λt39=>
 GQ t36 av (λE=>E v) λt40=>
 GQ t36 av (λE=>E (ad (i:Int))) λt41=>
 GQ t36 av (λE=>QDo ah c (gS .sub 3 t41 (ad 1)) E) λt42=>
 GQ t36 av (λE=>QDo ah c (mIA 32 t40 t42) E) λt43=>
 GQ t36 av (λE=>QDo ah c (mFA 42 t43 0) E) λt44=>
 GQ t36 av (λE=>QDo ah c (aG 3 t44) E) λt45=>
 GQ t36 av (λE=>QDo ah c (gS .lss 3 t39 t45) E) λt46=>
 QDo ah c (fK t36 t46 (.bool au)) λt47=>
 ∀w,c w->F t47 w):=by
 refine quiet ?_;rcases axG i with k|k
 ·subst k;refine J6 ?_;simp only[show ai ((0:Int) < ((0:Nat):Int))=au by decide,gq,K4];exact B0 λW a=>h W (d.grow a)
 obtain⟨j,rfl⟩:∃j,i=j+1:=⟨i - 1,om⟩;have q:(0:Int) < ((j+1:Nat):Int):=om
 have f:IntKind.wrap .i64 (((j+1:Nat):Int) - 1)=(j:Int):=by rw[aA om om];omega
 obtain⟨g,off,m⟩:=rS p (i:=j) om;refine J6 ?_;simp only[auR q,gq,K4];refine eZ _ (λ_=>bE fs0) ?_;refine kE (ad x.num) (λ_ a=>aB aW ((d.grow a).cell jx o 0 rfl)) ?_;refine eZ (ad (j:Int)) (λ_=>by rw[Cj,f]) ?_;refine kE _ (λW a=>(m W ((d.grow a).hasM jm hm)).1) ?_;refine eZ _ (λ_=>bE fs0) ?_;refine kE (ad l[j].num) (λW a=>KO (m W ((d.grow a).hasM jm hm)).2) ?_;refine abF ?_;refine H8 λW a=>?_;have e:Tl.Es l (j+1)=ax l[j].num:=by rw[Tl.Es,auX om];rfl
 have:=h W (d.grow a);rw[e] at this;exact this
end
 attribute [local congr] An
theorem On (l:List Slt)(v:aq)(M:Mem)(w:ao)(m:l.length<=1000000000000)(f:M.has w)(j:SlA M.A M.w v 4 l.length (Il l)) :
  Ret ah 31 #[v] w (λr w'=>r=ad (Tl.check l)∧Below w.heap.size w w'):=by
 refine aL λK n=>Ks ?_;unfold Ht nz;rw[aS ayF (j.now f)];refine loop (λvs W=>∃i:Nat,vs=[ad i]∧i<=l.length∧Tl.check l=Tl.AQ (Tl.Es l i) (l.drop i)∧dQ M.A w W [.mem M]) (λvs _=>l.length - n0 vs) ⟨0,rfl,om,rfl,dQ.memS f⟩ ?_;rintro vs p ⟨i,rfl,hi,he,a⟩ _;simp only[BW,gd,rs,nz];by_cases d:(i:Int) < (l.length:Int)
 case neg=>
  simp only[auQ d,i_f];rw[awK om,Tl.AQ] at he;exact n _ _ ⟨by rw[he],(a.FU 0 rfl M.le_refl f).below⟩
 have c:i < l.length:=om
 simp only[auR d,i_t];rw[Tl.Mm c,adJ] at he;obtain⟨g,off,q⟩:=rS j c;obtain⟨s,t⟩:=q p (a.hasM 0 rfl);refine aC s |>.mpr (aC (DN t) |>.mpr ?_);refine Np a λk w2 a=>?_;refine JE (y:=l[i]) 0 a rfl λw3 a=>?_;have a:dQ M.A w w3 [slE k l[i],.mem M]:=a;have C:l[i]?=ax l[i]:=auX c;generalize u:l[i]=x at *;have z:∀{PK:PKT} {K:VWP},DoX ah (aG 3 (af k 0)) w3 PK K=K (ad x.num) w3:=aH aW (a.cell 0 rfl 0 rfl);have B:∀{PK:PKT} {K:VWP},DoX ah (aG 3 (af k (0+1))) w3 PK K=K (ad x.kind) w3:=aH aW (a.cell 0 rfl 1 rfl);have fin:∀{W:ao} {e:Int} {L:List Ent},dQ M.A w W (L++([.mem M]++[]))->Tl.check l=e->K (.returned (ad e)) W:=by
  intro W e L a h;exact n _ _ ⟨by rw[h],(a.front.FU 0 rfl M.le_refl f).below⟩
 simp +contextual only[rs,gs,ZC,z];rw[DB];refine⟨λb=>fin (L:=[_]) a ?_,λb=>?_⟩
 ·simp only[axQ,awG] at b;rw[he,auP b];rfl
 have b:¬(x.num < 0∨8191 < x.num):=by simp only[aAn,awP] at b;omega
 rw[auO b] at he;simp +contextual only[rs,gs,L8,B];rw[DB];refine⟨λb=>fin (L:=[_]) a ?_,λb=>?_⟩
 ·simp only[axQ,awG] at b;rw[he,auP b];rfl
 have b:¬(x.kind < 0∨2 < x.kind):=by simp only[aAn,awP] at b;omega
 rw[auO b] at he;rw[sl_v a 0 rfl];refine aI a (R:=λv=>v=.bool (SY x)) (Xt x w3) ?_;rintro _ D rfl a;simp only[rs];cases o:SY x with
|false=>
  rw[o] at he;simp only[awA,i_t];exact fin (L:=[_]) a (by rw[he];rfl)
|true=>
 rw[o] at he;simp only[avY,i_f];simp only[if_true,ne_eq,not_true,if_false] at he;refine TD 0 1 a rfl rfl j hi m λE a=>?_;rw[DB];refine⟨λb=>fin (L:=[_]) a (by rw[he,auP b]),λb=>?_⟩;rw[auO (by rw[b];simp)] at he;refine T8 0 1 a rfl rfl j hi m λF a=>?_;rw[DB];refine⟨λb=>fin (L:=[_]) a (by rw[he,auP b]),λb=>?_⟩;rw[auO (by rw[b];simp)] at he;rw[aA om om];exact aU ⟨i+1,rfl,om,he,a.tail⟩ (by show l.length - Int.toNat ((i:Int)+1) < l.length - Int.toNat (i:Int);omega)
theorem Q1 (l:List Slt)(v:aq)(M:Mem)(w:ao)(s:l.length<=1000000000000)(p:M.has w)(m:SlA M.A M.w v 4 l.length (Il l)) :
  Ret ah 28 #[v] w (λr w'=>r=ad (Tl.check l)∧Below w.heap.size w w'):=by
 refine aL λK t=>zY ?_;unfold pU nz;refine loop (λvs W=>∃i:Nat,vs=[ad i]∧i<=l.length∧Tl.check l=Tl.AQ (Tl.Es l i) (l.drop i)∧dQ M.A w W [.mem M]) (λvs _=>l.length - n0 vs) ⟨0,rfl,om,rfl,dQ.memS p⟩ ?_;rintro vs C ⟨i,rfl,hi,he,d⟩ _;simp only[mJ,gd,nz];rw[aS ayF (m.now (d.hasM 0 rfl))];simp only[rs];by_cases f:(i:Int) < (l.length:Int)
 case neg=>
  simp only[auQ f,i_f];rw[awK om,Tl.AQ] at he;exact t _ _ ⟨by rw[he],(d.FU 0 rfl M.le_refl p).below⟩
 have j:i < l.length:=om
 simp only[auR f,i_t];rw[Tl.Mm j,Tl.okS] at he;obtain⟨g,off,D⟩:=rS m j;obtain⟨E,F⟩:=D C (d.hasM 0 rfl);refine aC E |>.mpr (aC (DN F) |>.mpr ?_);refine Np d λk w2 d=>?_;refine JE (y:=l[i]) 0 d rfl λw3 d=>?_;have d:dQ M.A w w3 [slE k l[i],.mem M]:=d;generalize G:l[i]=x at *;have H:∀{PK:PKT} {K:VWP},DoX ah (aG 3 (af k 0)) w3 PK K=K (ad x.num) w3:=aH aW (d.cell 0 rfl 0 rfl);have u:∀{PK:PKT} {K:VWP},DoX ah (aG 3 (af k (0+1))) w3 PK K=K (ad x.kind) w3:=aH aW (d.cell 0 rfl 1 rfl);have z:∀{PK:PKT} {K:VWP},DoX ah (aG 3 (af k (0+2))) w3 PK K=K (ad x.a) w3:=aH aW (d.cell 0 rfl 2 rfl);have B:∀{PK:PKT} {K:VWP},DoX ah (aG 3 (af k (0+3))) w3 PK K=K (ad x.b) w3:=aH aW (d.cell 0 rfl 3 rfl);have fin:∀{W:ao} {e:Int} {L:List Ent},dQ M.A w W (L++([.mem M]++[]))->Tl.check l=e->K (.returned (ad e)) W:=by
  intro W e L d h;exact t _ _ ⟨by rw[h],(d.front.FU 0 rfl M.le_refl p).below⟩
 simp +contextual only[rs,gs,ZC,H];rw[DB];refine⟨λc=>fin (L:=[_]) d ?_,λc=>?_⟩
 ·simp only[axQ,awG] at c;rw[he,auP c];rfl
 have c:¬(x.num < 0∨8191 < x.num):=by simp only[aAn,awP] at c;omega
 rw[auO c] at he;simp +contextual only[rs,gs,L8,u];rw[DB];refine⟨λc=>fin (L:=[_]) d ?_,λc=>?_⟩
 ·simp only[axQ,awG] at c;rw[he,auP c];rfl
 have c:¬(x.kind < 0∨2 < x.kind):=by simp only[aAn,awP] at c;omega
 rw[auO c] at he;refine join λJ I=>?_;have next:(Tl.check l=if (Tl.Es l i).any (λn=>ai (x.num=n)) then 9 else if (Tl.Es l i).any (λn=>ai (x.num < n)) then 1 else Tl.AQ (Tl.Es l (i+1)) (l.drop (i+1)))->J [] w3:=by
  intro he;refine I _ _ λ_=>?_;simp only[lZ,nz];refine TD 0 1 d rfl rfl m hi s λN d=>?_;rw[DB];refine⟨λc=>fin (L:=[_]) d (by rw[he,auP c]),λc=>?_⟩;rw[auO (by rw[c];simp)] at he;refine T8 0 1 d rfl rfl m hi s λO d=>?_;rw[DB];refine⟨λc=>fin (L:=[_]) d (by rw[he,auP c]),λc=>?_⟩;rw[auO (by rw[c];simp)] at he;simp only[rs];rw[aA om om];exact aU ⟨i+1,rfl,om,he,d.tail⟩ (by show l.length - Int.toNat ((i:Int)+1) < l.length - Int.toNat (i:Int);omega)
 try simp only[rs,L8,u]
 by_cases o:x.kind=2
 ·rw[auP o] at he;simp only[auR o,i_t];simp +contextual only[rs,gs,Nz,z,OA,B];rw[DB];refine⟨λc=>fin (L:=[_]) d ?_,λc=>next ?_⟩
  ·simp only[axQ,awG] at c;have q:x.a < 1∨8191 < x.a∨x.b < 0∨8191 < x.b:=om
   rw[auP q] at he;rw[he];rfl
  ·simp only[aAn,awP] at c;rw[auO om] at he;simpa using he
 ·rw[auO o] at he;simp only[auQ o,i_f];simp +contextual only[rs,gs,Nz,z,OA,B];rw[DB];refine⟨λc=>fin (L:=[_]) d ?_,λc=>next ?_⟩
  ·simp only[axQ,awG] at c;have q:x.a < 0∨2147483647 < x.a∨x.b < 0∨65535 < x.b:=om
   rw[auP q] at he;rw[he];rfl
  ·simp only[aAn,awP] at c;rw[auO om] at he;simpa using he
end
end Go.Proofs.YtkghomgfocpgeaaGreatDoor

namespace Go.Proofs.YtkghomgfocpgeaaGreatDoor
variable{K:VWP}{L:List Eng.Ent}{M:Eng.Mem}{P:Program}{PK PK2:PKT}{S:Nat->Prop}{W w w0:ao}{a:Int}{aj:List (Nat×List Nat)}{b cap d i id j:Nat}{cb:Array Bool}{cs:List aq}{fn:Func}{key:List UInt8}{o:Ob}{os:List Ob}{q:Bool}{t0 t1 v vc vk:aq}{u:FrameMode}{x:Pm}{xo yo:Operand}{t0 t1 t2 t3:aq}{k0:Eng.KT}
section
open Go
namespace Tl
def adj (y x:Slt):Prop:=y.num < x.num∧x.num - 1=y.num
instance (y x:Slt):Decidable (adj y x):=by unfold adj;infer_instance
def RX (gs:List (List Slt))(x:Slt):List (List Slt):=match gs.getLast? with
|none=>[[x]]
|some g=>match g.getLast? with
 |none=>gs++[[x]]
 |some y=>if adj y x then gs.dropLast++[g++[x]] else gs++[[x]]
theorem II:∀(l cur:List Slt),cur≠[]->eF cur l≠[]
|[],cur,h=>by rw[eF,auO h];simp
|x::l,cur,h=>by
  rw[eF];cases a:cur.getLast? with
 |none=>exact II l [x] sm
 |some y=>
   simp only;split
   ·exact II l _ sm
   ·simp
theorem Vo {g:List Slt}{gs:List (List Slt)}{x:Slt}(h:gs≠[]):RX (g::gs) x=g::RX gs x:=by
 unfold RX;have e:(g::gs).getLast?=gs.getLast?:=by
  cases gs with
 |nil=>exact absurd rfl h
 |cons a b=>rw[List.getLast?_cons_cons]
 rw[e];cases c:gs.getLast? with
|none=>exact absurd (aAL.1 c) h
|some u=>
  simp only;cases hu:u.getLast? with
 |none=>rfl
 |some y=>
   simp only;split
   ·rw[List.dropLast_cons_of_ne_nil h];rfl
   ·rfl
theorem oX (x:Slt):∀(l cur:List Slt),eF cur (l++[x])=RX (eF cur l) x
|[],cur=>by
  rw[awW,eF,eF];cases a:cur.getLast? with
 |none=>
   have b:cur=[]:=aAL.1 a;subst b;rfl
 |some y=>
   have b:cur≠[]:=λe=>by rw[e] at a;cases a
   rw[auO b];unfold RX;simp only[List.getLast?_singleton,a];unfold adj;split
   ·rename_i h;rw[eF,auO sm];simp[h]
   ·rename_i h;rw[eF,auO sm];simp[h]
|z::l,cur=>by
  rw[ayP,eF,eF];cases a:cur.getLast? with
 |none=>exact oX x l [z]
 |some y=>
   simp only;split
   ·exact oX x l _
   ·rw[oX x l [z],Vo (II l [z] sm)]
theorem LB {l:List Slt}{y:Slt}(h:l.getLast?=ax y):∃gs g,Gp l=gs++[g]∧g.getLast?=ax y∧g≠[]∧g.length<=l.length:=by
 obtain⟨a,f⟩:=Lk l;have b:Gp l≠[]:=λe=>by
  rw[e] at a;rw[<-a] at h;cases h
 obtain⟨gs,g,e⟩:∃gs g,Gp l=gs++[g]:=⟨_,_,(List.dropLast_concat_getLast b).symm⟩;have c:g≠[]:=(f g (by rw[e];simp)).1;refine⟨gs,g,e,?_,c,?_⟩
 ·rw[e] at a;rw[<-a] at h;simp only[List.flatten_append,List.flatten_cons,List.flatten_nil,awF] at h;rw[List.getLast?_append] at h;cases d:g.getLast? with
 |none=>exact absurd (aAL.1 d) c
 |some z=>rw[d] at h;exact h
 ·have:=congrArg List.length a;rw[e] at this;simp at this;omega
theorem aaR {l:List Slt}{x y:Slt}(a:l.getLast?=ax y)(h:adj y x):∃(q:List (Int×Int)) (f:Int) (n:Nat),runs l=q++[(f,(n:Int))]∧runs (l++[x])=q++[(f,(n:Int)+1)]∧n<=l.length:=by
 obtain⟨gs,g,e,b,c,d⟩:=LB a;refine⟨gs.map run,first g,g.length,?_,?_,d⟩
 ·unfold runs;rw[e,avT];rfl
 ·unfold runs Gp;rw[oX];have e':eF [] l=gs++[g]:=e;rw[e'];unfold RX;rw[List.getLast?_concat];simp only[b,auP h,List.dropLast_concat,avT,awY,ayZ];have:first (g++[x])=first g:=by
   cases g with
  |nil=>exact absurd rfl c
  |cons _ _=>rfl
  unfold run;rw[this,auU];simp
theorem Y8 {l:List Slt}{x:Slt}(h:∀y,l.getLast?=ax y->¬adj y x):runs (l++[x])=runs l++[(x.num,1)]:=by
 unfold runs Gp;rw[oX];cases a:l.getLast? with
|none=>
  have:l=[]:=aAL.1 a;subst this;rfl
|some y=>
  obtain⟨gs,g,e,b,c,d⟩:=LB a;have e':eF [] l=gs++[g]:=e;rw[e'];unfold RX;rw[List.getLast?_concat];simp only[b,auO (h y a),avT,awY,ayZ];rfl
theorem Ud (l:List Slt):(runs l).length<=l.length:=by
 obtain⟨c,d⟩:=Lk l;have:∀gs:List (List Slt),(∀g∈gs,Grp g)->gs.length<=gs.flatten.length:=by
  intro gs
  induction gs with
 |nil=>intro _;simp
 |cons g gs e=>
   intro h;have a:=e λu hu=>h u (awR _ hu);have b:0 < g.length:=azU.2 (h g axR).1;simp only[avR,List.flatten_cons,auU];omega
 have:=this _ d;rw[c] at this;unfold runs;simpa using this
end Tl
end
end Go.Proofs.YtkghomgfocpgeaaGreatDoor

namespace Go.Proofs.YtkghomgfocpgeaaGreatDoor
variable{K:VWP}{L:List Eng.Ent}{M:Eng.Mem}{P:Program}{PK PK2:PKT}{S:Nat->Prop}{W w w0:ao}{a:Int}{aj:List (Nat×List Nat)}{b cap d i id j:Nat}{cb:Array Bool}{cs:List aq}{fn:Func}{key:List UInt8}{o:Ob}{os:List Ob}{q:Bool}{t0 t1 v vc vk:aq}{u:FrameMode}{x:Pm}{xo yo:Operand}{t0 t1 t2 t3:aq}{k0:Eng.KT}
section
open Eng Go.RowKit
def rnC (p:Int×Int):List Value:=[ad p.1,ad p.2]
def rnV (p:Int×Int):Value:=.agg (rnC p).toArray
abbrev rnsC (l:List (Int×Int)):List Value:=l.flatMap rnC
abbrev HT (v:aq)(l:List (Int×Int)):Ent:=.recs 83 rnC 2 v l
theorem R3 (p:Int×Int):(rnC p).length=2:=rfl
theorem YA (p:Int×Int):∀v∈rnC p,v.oneCell'=true:=by
 intro v a;simp only[rnC,avB,awS,or_false] at a;rcases a with rfl|rfl<;>rfl
theorem amI:By ah 83=ax 2:=krx
theorem szRn:(Tryz.prog.info? 83).map (·.size)=ax 2:=krx
theorem elRn:elB ah 83 2 16=true:=krx
section
variable {w:ao}{PK:PKT}{K:VWP}{S:Nat->Prop}{w0:ao}{L:List Ent}
theorem agA {off:Nat}:(mIA 83 (af b off) (ad 0)).run ah w=.ok (.value (af b off)) w:=krx
theorem TG {off:Nat}:(mIA 83 (af b off) (ad 1)).run ah w=.ok (.value (af b (off+1))) w:=krx
theorem aeX {off:Nat}:DoX ah (mIA 83 (af b off) (ad 0)) w PK K=K (af b off) w:=aC agA
theorem agB {off:Nat}:DoX ah (mIA 83 (af b off) (ad 1)) w PK K=K (af b (off+1)) w:=aC TG
theorem m_rn {n:Int}{m:Int}:DoX ah (aN 83 #[(0,ad n),(1,ad m)]) w PK K=K (rnV (n,m)) w:=aC krx
theorem rns_row (i:Nat){l:List (Int×Int)}(a:dQ S w0 w L)(hi:L[i]?=ax (HT v l))(b:j < l.length) :
  ∃g cap,v=cW g 0 l.length cap∧(∀w,(mIA 49 v (ad (j:Int))).run ah w=.ok (.value (af g (j*2))) w) ∧
   (∀w',(HT v l).is w'->(aG 83 (af g (j*2))).run ah w'=.ok (.value (rnV l[j])) w') ∧
   ∀w',(HT v l).is w'->∀m u,(rnC l[j])[m]?=ax u->w'.cell? ⟨g,j*2+m,aw⟩=ax u:=
 rec_row R3 aAo szRn amI i a hi b
theorem afD (i:Nat){l:List (Int×Int)}{p:Int×Int}(a:dQ S w0 w L)(hi:L[i]?=ax (HT v l))(c:l.length<=1000000000)
  (k:∀v' w',dQ S w0 w' (L.set i (HT v' (l++[p])))->K v' w') :
  DoX ah (bJ 49 1 #[(0,rnV p)]) w PK λt w=>DoX ah (mB .append #[49,49] 49 cb #[v,t]) w PK2 K:=by
 refine bB (λb=>cW b 0 1 1) (rnC p) 83 (λ_=>by kernel_rfl) a λnb d a=>?_;refine bN (i+1) aAo elRn dc a (by rw[awH];exact hi) (a.sl 0 rfl 2 1 1 rfl) (YA p) om om λv' w2 a=>k v' w2 ?_;have e:HT v' (l++[p])=.urow 83 2 v' (l.length+1) (l.flatMap rnC++rnC p):=by
  rw[HT,Ent.recs,auU,axH];simp
 rw[e];exact a.tail
theorem aiL (i:Nat){g:Nat}{q:List (Int×Int)}{f n m:Int}{N:Nat}(a:dQ S w0 w L)(hi:L[i]?=ax (HT (cW g 0 N cap) (q++[(f,n)])))
  (h:∀w',dQ S w0 w' (L.set i (HT (cW g 0 N cap) (q++[(f,m)])))->K undef w') :
  DoX ah (aV 3 (af g (q.length*2+1)) (ad m)) w PK K:=by
 obtain⟨k,c,e⟩:=rM (a.at_ i hi) sm
 injection e with l b
 subst b;refine D4 i a hi (u:=ad m) (new:=[ad m]) rfl krx (λv j=>by rcases avV.1 j with rfl;rfl) (by simp;omega) λw' a=>h w' ?_;have d:=Eng.Aq R3 q;have e:((q++[(f,n)]).flatMap rnC).take (q.length*2+1)++[ad m]++((q++[(f,n)]).flatMap rnC).drop (q.length*2+1+[Value.int .i64 m].length)=(q++[(f,m)]).flatMap rnC:=by
  rw[axH,axH,ayO,ayO,aAN,avX om,ayV,awK (by rw[d];simp only[avR,aAc];omega),d,
   show q.length*2+1 - q.length*2=1 by omega,show q.length*2+1+[Value.int .i64 m].length - q.length*2=2 by simp;omega]
  simp[rnC]
 have b:HT (cW g 0 (q++[(f,n)]).length cap) (q++[(f,m)])=.urow 83 2 (cW g 0 (q++[(f,n)]).length cap) (q++[(f,n)]).length ((q++[(f,m)]).flatMap rnC):=by
  rw[HT,Ent.recs,auU,auU];rfl
 rw[b,<-e];exact a
end
def ahH (l:List Slt):Prop:=∀x∈l,-9223372036854775808<=x.num∧x.num<=9223372036854775807
theorem ZE {l:List Slt}(a:j < l.length):(l.take (j+1)).getLast?=ax l[j]:=by
 rw[List.getLast?_eq_getElem?,avA,awB om,aBh,aAJ om,auX a]
theorem Ir {l:List Slt}(a:j < l.length):l.take (j+1)=l.take j++[l[j]]:=by
 rw[aAQ,auX a];rfl
def RnsV (l:List Slt)(v:aq)(N:Mem):Prop:=SlA N.A N.w v 2 (Tl.runs l).length (rnsC (Tl.runs l))
theorem WR (l:List Slt)(v:aq)(M:Mem)(w:ao)(b:l.length<=1000000)(G:ahH l)(E:M.has w)(F:SlA M.A M.w v 4 l.length (Il l)) :
  lA ah 61 #[v] M w (RnsV l):=by
 refine aO E λK Q=>KU ?_;unfold I9 nz;rw[aS ayF (F.now E)];refine loop (λvs W=>∃(i:Nat) (u:aq),vs=[u,ad i]∧i<=l.length∧dQ M.A w W [HT u (Tl.runs (l.take i)),.mem M]) (λvs _=>l.length - n1 vs) ⟨0,_,rfl,om,dQ.nilU (dQ.memS E) 83 2⟩ ?_;rintro vs R ⟨i,u,rfl,hi,a⟩ _;simp only[Fm,gd,rs,nz];by_cases p:(i:Int) < (l.length:Int)
 case neg=>
  simp only[auQ p,i_f];rw[avX om] at a;obtain⟨N,hle,r,a⟩:=dQ.bH (L:=[.mem M]) a 0 rfl;exact Q _ _ N _ 0 a rfl hle r
 have m:i < l.length:=om
 simp only[auR p,i_t];refine join λJ S=>?_;obtain⟨g,off,T⟩:=rS F m;obtain⟨U,V⟩:=T R (a.hasM 1 rfl);refine aC U |>.mpr (aC (DN V) |>.mpr ?_);refine Np a λD w2 a=>?_;refine JE (y:=l[i]) 0 a rfl λw3 a=>?_;have a:dQ M.A w w3 [slE D l[i],HT u (Tl.runs (l.take i)),.mem M]:=a;have next:∀{s:aq} {W:ao},dQ M.A w W [slE D l[i],HT s (Tl.runs (l.take (i+1))),.mem M]->J [s] W:=by
  intro s W a;refine S _ _ λ_=>?_;simp only[Fo,gd,rs,nz];rw[aA om om];exact aU ⟨i+1,s,rfl,om,a.tail⟩ (by show l.length - Int.toNat ((i:Int)+1) < l.length - Int.toNat (i:Int);omega)
 have t:=Ir m;have z:=Tl.Ud (l.take i);rw[avA,awB om] at z;have X:=G l[i] (avD m);have d:∀{W:ao},dQ M.A w W [slE D l[i],HT u (Tl.runs (l.take i)),.mem M]->(∀y,(l.take i).getLast?=ax y->¬Tl.adj y l[i])->DoX ah (mFA 42 (af D 0) 0) W (pk K) λt49 w=>
 DoX ah (aG 3 t49) w (pk K) λt50 w=>
 DoX ah (aN 83 #[(0,t50),(1,(ad 1))]) w (pk K) λt51 w=>
 DoX ah (bJ 49 1 #[(0,t51)]) w (pk K) λt52 w=>
 DoX ah (mB .append #[49,49] 49 #[au,au] #[u,t52]) w (pk K) λt53 w=>
 J [t53] w:=by
  intro W a hm;rw[ZC,aH aW (a.cell 0 rfl 0 rfl),m_rn];refine afD 1 a rfl om λs w4 a=>?_;rw[<-Tl.Y8 hm,<-t] at a;exact next a
 refine quiet ?_;rcases axG i with H|H
 ·subst H;refine J6 ?_;simp only[show ai ((0:Int) < ((0:Nat):Int))=au by decide,gq,K4];refine B0 ?_;simp only[gq,K4];refine B0 λW b=>?_;simp only[i_f];exact d (a.grow b) (λy o=>by simp at o)
 obtain⟨j,rfl⟩:∃j,i=j+1:=⟨i - 1,om⟩;have Y:(0:Int) < ((j+1:Nat):Int):=om
 have B:IntKind.wrap .i64 (((j+1:Nat):Int) - 1)=(j:Int):=by rw[aA om om];omega
 obtain⟨g2,I,e⟩:=rS F (i:=j) om;have c:=ZE (l:=l) (j:=j) om;have Z:=G l[j] (avD om);refine J6 ?_;simp only[auR Y,gq,K4];refine eZ _ (λ_=>bE fs0) ?_;refine kE (ad l[j+1].num) (λ_ b=>aB aW ((a.grow b).cell 0 rfl 0 rfl)) ?_;refine eZ (ad (j:Int)) (λ_=>by rw[Cj,B]) ?_;refine kE _ (λW b=>(e W ((a.grow b).hasM 2 rfl)).1) ?_;refine eZ _ (λ_=>bE fs0) ?_;refine kE (ad l[j].num) (λW b=>KO (e W ((a.grow b).hasM 2 rfl)).2) ?_;refine J6 (H8 ?_);by_cases k:l[j].num < l[j+1].num
 case neg=>
  simp only[auQ k,gq,K4];refine B0 λW b=>?_;simp only[i_f];refine d (a.grow b) λy o=>?_;rw[c] at o;cases o;exactλh=>k h.1
 simp only[auR k,gq,K4];refine eZ _ (λ_=>bE fs0) ?_;refine kE (ad l[j+1].num) (λ_ b=>aB aW ((a.grow b).cell 0 rfl 0 rfl)) ?_;refine eZ (ad (l[j+1].num - 1)) (λ_=>by rw[Cj,aA om om]) ?_;refine eZ (ad (j:Int)) (λ_=>by rw[Cj,B]) ?_;refine kE _ (λW b=>(e W ((a.grow b).hasM 2 rfl)).1) ?_;refine eZ _ (λ_=>bE fs0) ?_;refine kE (ad l[j].num) (λW b=>KO (e W ((a.grow b).hasM 2 rfl)).2) ?_;refine q_eq (H8 ?_);by_cases heq:l[j+1].num - 1=l[j].num
 case neg=>
  simp only[auQ heq];intro W b;simp only[i_f];refine d (a.grow b) λy o=>?_;rw[c] at o;cases o;exactλh=>heq h.2
 simp only[auR heq];intro W b;simp only[i_t];have a:=a.grow b;obtain⟨q,f,n,e1,e2,hn⟩:=Tl.aaR c (x:=l[j+1]) ⟨k,heq⟩;rw[avA,awB om] at hn;rw[e1] at a z;obtain⟨g3,O,rfl,P,_,cl⟩:=rns_row 1 a rfl (j:=q.length) sm;have C:(q++[(f,(n:Int))])[q.length]'(sm)=(f,(n:Int)):=sm
 rw[C] at cl;have hlen:(q++[(f,(n:Int))]).length=q.length+1:=sm
 refine quiet ?_;refine kE (ad ((q.length+1:Nat):Int)) (λW b=>by rw[Wn aAo ((a.grow b).slU 1 rfl),hlen]) ?_;refine eZ (ad (q.length:Int)) (λ_=>by rw[Cj,aA om om,show ((q.length+1:Nat):Int) - 1=(q.length:Int) by omega]) ?_;refine eZ _ (λw=>P w) (eZ _ (λ_=>TG) ?_);refine kE (ad (n:Int)) (λW b=>aB aW (cl _ ((a.grow b).at_ 1 rfl) 1 _ rfl)) ?_;refine eZ (ad ((n:Int)+1)) (λ_=>by rw[Qz,aA om om]) ?_;refine eZ _ (λw=>P w) (eZ _ (λ_=>TG) ?_);intro W2 b;have a:=a.grow b;refine aiL 1 a rfl λw5 a=>?_;rw[<-e2,<-t] at a;exact next a
end
section
open Eng
def Ct(t0 t3 w)(a:JT)(K:KT):=nz f36 19 [a] [nh 5 [0,3]] [] (zg [0,3] [t0,t3]) w K
def GN(t0 w)(K:KT):=nz f36 1 [] [(5,[0,3],λs v j w f=>Ct (vg v 0) (vg v 1) w (f 0) K)] [] (zg [0] [t0]) w K
theorem JM:GN t0 w k0->Calls ah 36 #[t0] w k0:=cz [] [(2,[0,3])] func36
def Ba(t2 t3 t4 t7 t8 t9 w)(a:JT)(K:KT):=nz f12 43 [a] [nh 7 [3,4,9]] [] (zg [2,3,4,7,8,9] [t2,t3,t4,t7,t8,t9]) w K
def EX(t0 w)(K:KT):=nz f12 1 [] [(7,[3,4,9],λs v j w f=>Ba (s 2) (vg v 0) (vg v 1) (s 7) (s 8) (vg v 2) w (f 0) K)] [] (zg [0] [t0]) w K
theorem HY:EX t0 w k0->Calls ah 12 #[t0] w k0:=cz [] [(3,[3,4,9])] func12
def A7(t0 t1 t7 w)(a:JT)(K:KT):=nz f34 21 [a] [nh 5 [0,7]] [] (zg [0,1,7] [t0,t1,t7]) w K
def Fj(t0 t1 t2 w)(K:KT):=nz f34 1 [] [(5,[0,7],λs v j w f=>A7 (vg v 0) (s 1) (vg v 1) w (f 0) K)] [] (zg [0,1,2] [t0,t1,t2]) w K
theorem Iq:Fj t0 t1 t2 w k0->Calls ah 34 #[t0,t1,t2] w k0:=cz [] [(2,[0,7])] func34
def EE(a g c d b w)(v:JT)(K:KT):=
 lnx 23 d w K λh w=>bnx .lss 3 b h w K λi w=>IfX i (AI w (λS7 w=>HDo ah S7 (aG 25 c) λj=>HDo ah (λ_=>True) (mIA 23 d b) λk=>HDo ah (λ_=>True) (mFA 25 k 3) λl=>HDo ah S7 (aG 9 l) λm=>HDo ah (λ_=>True) (gS .add 3 b (iN 1)) λn=>HDo ah (λ_=>True) (mIA 23 d n) λo=>HDo ah S7 (aG 25 o) λp=>eN ah 65 #[j,m,p] w (ay 15 (pk K)) λe w=>(HDo ah (λ_=>True) (zt e 0) λq=>HDo ah (λ_=>True) (zt e 1) λf=>DoX ah (aV 25 c q) w (ay 15 (pk K)) λ_ w=>(ecx .neq 35 96 0 f w K λr w=>IfX r (dx (aN 25 #[]) w K λs w=>stx 25 a s w K λ_ w=>zu ah [.cell a 25,.val f] w K) (bnx .add 3 b (iN 2) w K λt w=>v [g,t] w))))) (ldx 25 c w K λu w=>stx 25 a u w K λ_ w=>zu ah [.cell a 25,.val (iN 0)] w K)
def nD(a b c d w)(K:KT):=
 zr [b,(iN 0)] w (λe w f=>∀_:Sg,EE a (e.getD 0 undef) c d (e.getD 1 undef) w f K)
def EN(b e f g h i c j a w)(M:JT)(K:KT):=
 bnx .lss 3 a (iN 3) w K λk w=>IfX k (dx (mIx 45 j a) w K λl w=>cx 62 #[l] w K λm w=>dx (bJ 23 1 #[(0,m)]) w K λn w=>apx 23 c n w K λo w=>bnx .add 3 a (iN 1) w K λp w=>M [o,p] w) (cx 63 #[(.string ⟨#[84,121,112,101]⟩)] w K λq w=>cx 63 #[(.string ⟨#[88,82,101,102]⟩)] w K λr w=>cx 63 #[(.string ⟨#[83,105,122,101]⟩)] w K λs w=>cx 62 #[h] w K λt w=>cx 63 #[(.string ⟨#[87]⟩)] w K λu w=>cx 64 #[c] w K λv w=>cx 63 #[(.string ⟨#[73,110,100,101,120]⟩)] w K λx w=>cx 64 #[i] w K λy w=>dx (bJ 23 8 #[(0,q),(1,r),(2,s),(3,t),(4,u),(5,v),(6,x),(7,y)]) w K λd w=>zP (λL=>fax 34 b 3 w K λz w=>ldx 3 z w K λA w=>bnx .geq 3 A (iN 0) w K λB w=>IfX B (zp w (λE=>Eu ah E 63 #[(.string ⟨#[80,114,101,118]⟩)] λC=>QDo ah E (mFA 34 b 3) λD=>QDo ah E (aG 3 D) λF=>Eu ah E 62 #[F] λG=>
 ∀w,E w ->
 DoX ah (bJ 23 2 #[(0,C),(1,G)]) w (pm1 (pk K)) λH w=>DoX ah (mB .append #[23,23] 23 #[au,au] #[d,H]) w (pm1 (pk K)) λI w=>L [I] w)) (L [d] w)) (λJ w=>∀_:Sg,nD e f g (J.getD 0 undef) w K))
def EH(d e f g h i c j k b w)(G:JT)(K:KT):=
 bnx .lss 3 b k w K λl w=>IfX l (iax 49 j b w K λm w=>ldx 83 m w K λn w=>alx 83 w K λa w=>stx 83 a n w K λ_ w=>iax 83 a (iN 0) w K λo w=>ldx 3 o w K λp w=>iax 83 a (iN 1) w K λq w=>ldx 3 q w K λr w=>bnx .add 3 p r w K λs w=>zp w (λE=>QDo ah E (mIA 83 a (iN 0)) λt=>QDo ah E (aG 3 t) λu=>Eu ah E 62 #[u] λv=>QDo ah E (mIA 83 a (iN 1)) λx=>QDo ah E (aG 3 x) λy=>Eu ah E 62 #[y] λz=>
 ∀w,E w ->
 DoX ah (bJ 23 2 #[(0,v),(1,z)]) w (pm1 (pk K)) λA w=>DoX ah (mB .append #[23,23] 23 #[au,au] #[c,A]) w (pm1 (pk K)) λB w=>bnx .add 3 b (iN 1) w K λC w=>G [s,B,C] w)) (ldx 45 e w K λD w=>zr [(.slice aw 0 0),(iN 0)] w (λF w H=>∀_:Sg,EN d f g h i c (F.getD 0 undef) D (F.getD 1 undef) w H K))
def I2(d e w)(K:KT):=
 dx (AS 34 d) w K λa w=>dx (AS 45 e) w K λf w=>alx 25 w K λg w=>fax 34 a 2 w K λh w=>ldx 25 h w K λi w=>cx 60 #[i] w K λj w=>alx 25 w K λb w=>stx 25 b j w K λ_ w=>fax 34 a 1 w K λk w=>ldx 32 k w K λl w=>cx 61 #[l] w K λc w=>lnx 49 c w K λm w=>zr [(iN 0),(.slice aw 0 0),(iN 0)] w (λn w o=>∀_:Sg,EH a f g (iN 0) b (n.getD 0 undef) (n.getD 1 undef) c m (n.getD 2 undef) w o K)
theorem L5:I2 t0 t1 w k0->Calls ah 33 #[t0,t1] w k0:=cz [(19,[14])] [(5,[7,8,24]),(12,[11,44]),(20,[5,15])] func33
def Ft(c b d e a w)(m n:JT)(K:KT):=
 bnx .lss 3 a (iN 3) w K λf w=>IfX f (dx (mIx 45 e a) w K λg w=>iax 45 c a w K λh w=>ldx 3 h w K λi w=>cx 34 #[b,g,i] w K λj w=>bnx .add 3 a (iN 1) w K λk w=>n [j,k] w) (bnx .add 3 d (iN 1) w K λl w=>m [b,l] w)
def EP(j a b d f k l e w)(J:JT)(K:KT):=
 bnx .lss 3 e l w K λm w=>IfX m (iax 32 k e w K λn w=>ldx 42 n w K λo w=>alx 42 w K λc w=>stx 42 c o w K λ_ w=>fax 42 c 1 w K λp w=>ldx 3 p w K λq w=>fax 42 c 2 w K λr w=>ldx 3 r w K λs w=>fax 42 c 3 w K λt w=>ldx 3 t w K λu w=>dx (aN 45 #[(0,q),(1,s),(2,u)]) w K λv w=>zr [f,(iN 0)] w (λE w N=>∀_:Sg,Ft b (E.getD 0 undef) e v (E.getD 1 undef) w J N K)) (iax 45 b (iN 0) w K λx w=>ldx 3 x w K λy w=>iax 45 b (iN 1) w K λz w=>ldx 3 z w K λA w=>bnx .add 3 y A w K λB w=>iax 45 b (iN 2) w K λC w=>ldx 3 C w K λD w=>bnx .add 3 B D w K λF w=>dx (aN 73 #[(0,(iN 12)),(1,(iN 1)),(2,F)]) w K λG w=>alx 73 w K λg w=>stx 73 g G w K λ_ w=>ldx 25 d w K λH w=>dx (bJ 22 1 #[(0,(.string ⟨#[70,108,97,116,101,68,101,99,111,100,101]⟩))]) w K λI w=>ldx 73 g w K λL w=>dx (bJ 75 1 #[(0,L)]) w K λM w=>dx (nG 70 9 f) w K λO w=>cx 35 #[H,I,M,O] w K λh w=>exx h 0 w K λP w=>exx h 1 w K λi w=>stx 25 d P w K λ_ w=>ecx .neq 35 111 0 i w K λQ w=>IfX Q (dx (aN 27 #[]) w K λR w=>stx 27 a R w K λ_ w=>zu ah [.cell a 27,.val i] w K) (fax 34 j 5 w K λS w=>ldx 3 S w K λT w=>ldx 25 d w K λU w=>dx (aN 27 #[(0,T),(2,U)]) w K λV w=>stx 27 a V w K λ_ w=>zu ah [.cell a 27,.val (iN 0)] w K))
def I4(m w)(K:KT):=
 dx (AS 34 m) w K λa w=>alx 27 w K λb w=>fax 34 a 1 w K λn w=>ldx 32 n w K λo w=>cx 31 #[o] w K λg w=>ecx .neq 35 18 0 g w K λp w=>IfX p (dx (aN 27 #[]) w K λq w=>stx 27 b q w K λ_ w=>zu ah [.cell b 27,.val g] w K) (fax 34 a 5 w K λr w=>ldx 3 r w K λs w=>bnx .lss 3 s (iN 1) w K λc w=>gfx c (mFA 34 a 5) w K λt w=>gfx c (aG 3 t) w K λu w=>gfx c (gS .gtr 3 u (iN 8191)) w K λv w=>dx (fK c (.bool av) v) w K λd w=>gfx d (mFA 34 a 3) w K λx w=>gfx d (aG 3 x) w K λy w=>gfx d (gS .lss 3 y (iN (-1))) w K λz w=>dx (fK d (.bool av) z) w K λe w=>gfx e (mFA 34 a 3) w K λA w=>gfx e (aG 3 A) w K λB w=>gfx e (gS .gtr 3 B (iN 2147483647)) w K λC w=>dx (fK e (.bool av) C) w K λD w=>IfX D (dx (aN 27 #[]) w K λF w=>stx 27 b F w K λ_ w=>zu ah [.cell b 27,.val (iN 1)] w K) (fax 34 a 2 w K λG w=>ldx 25 G w K λH w=>cx 32 #[H] w K λh w=>ecx .neq 35 44 0 h w K λI w=>IfX I (dx (aN 27 #[]) w K λL w=>stx 27 b L w K λ_ w=>zu ah [.cell b 27,.val h] w K) (fax 34 a 2 w K λM w=>fax 25 M 0 w K λO w=>ldx 3 O w K λP w=>ecx .neq 3 50 7 P w K λQ w=>IfX Q (dx (aN 27 #[]) w K λR w=>stx 27 b R w K λ_ w=>zu ah [.cell b 27,.val (iN 10)] w K) (fax 34 a 1 w K λS w=>ldx 32 S w K λT w=>cx 12 #[T] w K λU w=>alx 45 w K λf w=>stx 45 f U w K λ_ w=>ldx 34 a w K λV w=>ldx 45 f w K λW w=>cx 33 #[V,W] w K λi w=>exx i 0 w K λX w=>exx i 1 w K λj w=>alx 25 w K λk w=>stx 25 k X w K λ_ w=>ecx .neq 35 62 0 j w K λY w=>IfX Y (dx (aN 27 #[]) w K λZ w=>stx 27 b Z w K λ_ w=>zu ah [.cell b 27,.val j] w K) (fax 34 a 1 w K λt66 w=>ldx 32 t66 w K λl w=>lnx 32 l w K λt68 w=>zr [(.slice aw 0 0),(iN 0)] w (λE w J=>∀_:Sg,EP a b f k (E.getD 0 undef) l t68 (E.getD 1 undef) w J K))))))
theorem Mf:I4 t0 w k0->Calls ah 11 #[t0] w k0:=cz [] [(17,[9,69]),(20,[9,80])] func11
def BX(t0 w)(K:KT):=nz f38 1 [] [] [] (zg [0] [t0]) w K
theorem CU:BX t0 w k0->Calls ah 38 #[t0] w k0:=cw func38
def HK(t0 t1 w)(K:KT):=nz f40 1 [] [] [] (zg [0,1] [t0,t1]) w K
theorem Ka:HK t0 t1 w k0->Calls ah 40 #[t0,t1] w k0:=cw func40
def HH(t0 w)(K:KT):=nz f41 1 [] [] [] (zg [0] [t0]) w K
theorem Kq:HH t0 w k0->Calls ah 41 #[t0] w k0:=cw func41
def De(d f g b w)(A:JT)(K:KT):=
 lnx 23 d w K λh w=>bnx .lss 3 b h w K λi w=>IfX i (AI w (λS2 w=>HDo ah S2 (mIA 23 d b) λj=>HDo ah S2 (aG 25 j) λk=>HDo ah S2 (gS .add 3 b (iN 1)) λl=>HDo ah S2 (mIA 23 d l) λm=>HDo ah S2 (aG 25 m) λn=>eN ah 40 #[k,(iN 2147483647)] w (ay 11 (pk K)) λc w=>S2 w∧(eN ah 40 #[n,(iN 2147483647)] w (ay 11 (pk K)) λe w=>S2 w∧(bnx .geq 3 c g w K λa w=>etx a c w λo w=>etx a e w λp w=>gtx a (gS .add 3 o p) w K λq w=>gtx a (gS .leq 3 q (iN 8192)) w K λr w=>dx (fK a r (.bool au)) w K λs w=>cx 38 #[s] w K λz w=>bnx .add 3 c e w K λt w=>dx (aN 83 #[(0,c),(1,e)]) w K λu w=>dx (bJ 49 1 #[(0,u)]) w K λv w=>apx 49 f v w K λx w=>bnx .add 3 b (iN 2) w K λy w=>A [x,t,y] w)))) (K (.returned f) w)
def GX(a w)(K:KT):=
 lnx 23 a w K λb w=>bnx .rem 3 b (iN 2) w K λc w=>ecx .eql 3 10 0 c w K λd w=>cx 38 #[d] w K λe w=>zr [(.slice aw 0 0),(iN 0),(iN 0)] w (λf w g=>∀_:Sg,De a (f.getD 0 undef) (f.getD 1 undef) (f.getD 2 undef) w g K)
theorem Ky:GX t0 w k0->Calls ah 42 #[t0] w k0:=cz [] [(5,[3,4,5])] func42
def Ew(t2 t3 w)(K:KT):=nz f17 32767 [] [] [] (zg [2,3] [t2,t3]) w K
def EC(t1 t2 t3 w)(K:KT):=nz f17 16383 [] [(44,[],λs v j w f=>Ew (s 2) (s 3) w K)] [] (zg [1,2,3] [t1,t2,t3]) w K
def EB(t1 t2 t3 t8 t11 t54 w)(a:JT)(K:KT):=nz f17 11263 [a] [nh 23 [54],(38,[],λs v j w f=>EC (s 1) (s 2) (s 3) w K)] [] (zg [1,2,3,8,11,54] [t1,t2,t3,t8,t11,t54]) w K
def Jd(t0 w)(K:KT):=nz f17 1 [] [(23,[54],λs v j w f=>EB (s 1) (s 2) (s 3) (s 8) (s 11) (vg v 0) w (f 0) K)] [] (zg [0] [t0]) w K
theorem KW:Jd t0 w k0->Calls ah 17 #[t0] w k0:=cz [(19,[]),(22,[])] [(11,[54])] func17
def lH(t0 w)(K:KT):=nz f46 1 [] [] [] (zg [0] [t0]) w K
theorem vW:lH t0 w k0->Calls ah 46 #[t0] w k0:=cw func46
def fY(t0 t4 t9 t14 t15 w)(a b:JT)(K:KT):=nz f80 365 [a,b] [nh 3 [9],nh 9 [15]] [] (zg [0,4,9,14,15] [t0,t4,t9,t14,t15]) w K
def fR(t0 t7 t8 t9 w)(a:JT)(K:KT):=nz f80 5 [a] [nh 3 [9],(9,[15],λs v j w f=>fY (s 0) (s 4) (s 9) (s 14) (vg v 0) w (f 1) (f 0) K)] [] (zg [0,7,8,9] [t0,t7,t8,t9]) w K
def gR(t0 t1 w)(K:KT):=nz f80 1 [] [(3,[9],λs v j w f=>fR (s 0) (s 7) (s 8) (vg v 0) w (f 0) K)] [] (zg [0,1] [t0,t1]) w K
theorem pC:gR t0 t1 w k0->Calls ah 80 #[t0,t1] w k0:=cz [] [(1,[9]),(4,[15])] func80
def eE(t2 t3 t7 t25 t26 w)(a:JT)(K:KT):=nz f45 351 [a] [nh 15 [7,26]] [] (zg [2,3,7,25,26] [t2,t3,t7,t25,t26]) w K
def kU(t0 t1 t2 t3 w)(K:KT):=nz f45 1 [] [(15,[7,26],λs v j w f=>eE (s 2) (s 3) (vg v 0) (s 25) (vg v 1) w (f 0) K)] [] (zg [0,1,2,3] [t0,t1,t2,t3]) w K
theorem tS:kU t0 t1 t2 t3 w k0->Calls ah 45 #[t0,t1,t2,t3] w k0:=cz [] [(7,[7,26])] func45
def lC (a:Nat)(K:Ending->ao->Prop):=pdM ah [.val (.slice aw 0 0)] K [(mkD a)]
def aP (a:Nat)(K:Ending->ao->Prop):=pdM ah [.val undef] K [(mkD a)]
def oU(b d e a s w)(t:JT)(K:KT):=
 DoX ah (gS .lss 3 a e) w (aP s K) λf w=>IfX f (DoX ah (mIA 32 d a) w (aP s K) λg w=>DoX ah (aG 42 g) w (aP s K) λh w=>DoX ah (iM 42) w (aP s K) λc w=>DoX ah (aV 42 c h) w (aP s K) λ_ w=>DoX ah (mFA 42 c 1) w (aP s K) λi w=>DoX ah (aG 3 i) w (aP s K) λj w=>DoX ah (gS .leq 3 j (iN 2)) w (aP s K) λk w=>eN ah 38 #[k] w (aP s K) λq w=>DoX ah (gS .add 3 a (iN 1)) w (aP s K) λl w=>AtX [(mkD s)] [(mkD s)] (t [l] w)) (DoX ah (aG 32 b) w (aP s K) λm w=>eN ah 31 #[m] w (aP s K) λn w=>DoX ah (mEq .eql 35 (.tmp 40) (.const (iN 0)) n (iN 0)) w (aP s K) λo w=>eN ah 38 #[o] w (aP s K) λr w=>DoX ah (aG 32 b) w (aP s K) λp w=>Hb ah [.val p] K [(mkD s)] .returning w)
def cH(a b h i g w):=
 DoX ah (aG 32 a) w g λc w=>DoX ah (aG 42 b) w g λd w=>DoX ah (bJ 32 1 #[(0,d)]) w g λe w=>DoX ah (mB .append #[32,32] 32 #[au,au] #[c,e]) w g λf w=>DoX ah (aV 32 a f) w g λ_ w=>EndX ah h aw w i
def jE(m n w)(K:KT):=
 dx (AS 51 m) w K λg w=>dx (AS 9 n) w K λo w=>alx 32 w K λa w=>alx 3 w K λh w=>stx 3 h (iN 0) w K λ_ w=>dx (Q7 (.func 45) #[] #[g,h,o]) w K λp w=>alx 76 w K λb w=>stx 76 b p w K λ_ w=>ldx 51 g w K λq w=>cx 46 #[q] w K λr w=>RangeX ah aw 1 r w (λL x w N v=>BegX ah L w (λw=>AI w (λS2 w=>HDo ah S2 (aG 76 b) λi=>HDo ah S2 (aG 76 b) λe=>HDo ah S2 (aG 76 b) λd=>(CVX ah i #[(iN 0)] w (pm1 (pm1 (pm1 (pm1 (pm1 v))))) λf w=>S2 w∧((CVX ah e #[(iN 1)] w (pm1 (pm1 (pm1 (pm1 (pm1 v))))) λj w=>S2 w∧((CVX ah d #[(iN 2)] w (pm1 (pm1 (pm1 (pm1 (pm1 v))))) λs w=>S2 w∧(HDo ah (λ_=>True) (aN 42 #[(0,(x.getD 0 undef)),(1,f),(2,j),(3,s)]) λt=>DoX ah (iM 42) w (pm1 (pm1 (pm1 (pm1 (pm1 v))))) λk w=>S2 w∧(DoX ah (aV 42 k t) w (pm1 (pm1 (pm1 (pm1 (pm1 v))))) λ_ w=>(cH a k L N v w))))∧(DoX ah (iM 42) w (pm1 (pm1 (pm1 (pm1 (pm1 v))))) λy w=>S2 w∧(CVX ah d #[(iN 2)] w (pm1 (pm1 (pm1 (pm1 (pm1 v))))) λB w=>S2 w∧(HDo ah (λ_=>True) (aN 42 #[(0,(x.getD 0 undef)),(1,f),(2,j),(3,B)]) λC=>DoX ah (aV 42 y C) w (pm1 (pm1 (pm1 (pm1 (pm1 v))))) λ_ w=>(cH a y L N v w))))))∧(DoX ah (iM 42) w (pm1 (pm1 (pm1 (pm1 (pm1 v))))) λz w=>S2 w∧(CVX ah e #[(iN 1)] w (pm1 (pm1 (pm1 (pm1 (pm1 v))))) λD w=>S2 w∧(CVX ah d #[(iN 2)] w (pm1 (pm1 (pm1 (pm1 (pm1 v))))) λE w=>S2 w∧(HDo ah (λ_=>True) (aN 42 #[(0,(x.getD 0 undef)),(1,f),(2,D),(3,E)]) λF=>DoX ah (aV 42 z F) w (pm1 (pm1 (pm1 (pm1 (pm1 v))))) λ_ w=>(cH a z L N v w)))))))∧(DoX ah (iM 42) w (pm1 (pm1 (pm1 (pm1 (pm1 v))))) λA w=>S2 w∧(CVX ah i #[(iN 0)] w (pm1 (pm1 (pm1 (pm1 (pm1 v))))) λG w=>S2 w∧(CVX ah e #[(iN 1)] w (pm1 (pm1 (pm1 (pm1 (pm1 v))))) λH w=>S2 w∧(CVX ah d #[(iN 2)] w (pm1 (pm1 (pm1 (pm1 (pm1 v))))) λI w=>S2 w∧(HDo ah (λ_=>True) (aN 42 #[(0,(x.getD 0 undef)),(1,G),(2,H),(3,I)]) λJ=>DoX ah (aV 42 A J) w (pm1 (pm1 (pm1 (pm1 (pm1 v))))) λ_ w=>(cH a A L N v w)))))))))
 [(aw,λM w=>DoX ah (aG 32 a) w (lC M K) λl w=>DoX ah (mB .len #[32] 3 #[au] #[l]) w (lC M K) λu w=>zr [(iN 0)] w (λO w P=>∀_:Sg,oU a l u (O.getD 0 undef) M w P K))] (λc M w=>pdM ah [.val (.slice aw 0 0)] K [(mkD M)] c w)
theorem BK (t0 t1:aq)(w:ao)(K:Ending->ao->Prop):wpX ah 44 [] [(9,[30])] aw (wG f20) (topM ah [.tmp 4] K) (jX [t0,t1]) [] w=jE t0 t1 w K:=krx
theorem Bo {K:Ending->ao->Prop}(h:jE t0 t1 w K):Calls ah 20 #[t0,t1] w K:=
 QF func20 rfl rfl rfl rfl (Eq.mpr (BK t0 t1 w K) h)
def mS (a:Deferred)(b:aq)(K:Ending->ao->Prop):=pd ah [.cell b 35] K [a]
def Fh(b w)(K:KT):=
 alx 35 w K λa w=>dx (Q7 (.func 37) #[] #[a]) w K λc w=>DfrX (dfrV c #[]) (λd1=>DoX ah (fV b #[]) w (mS d1 a K) λd w=>DoX ah (aV 35 a (iN 0)) w (mS d1 a K) λ_ w=>Et ah [.cell a 35] K [d1] .returning w)
theorem IP:Fh t0 w k0->Calls ah 15 #[t0] w k0:=cw func15
def A5(t0 t1 w)(K:KT):=nz f16 1 [] [] [] (zg [0,1] [t0,t1]) w K
theorem FE:A5 t0 t1 w k0->Calls ah 16 #[t0,t1] w k0:=cw func16
def AE(t0 t1 t2 w)(K:KT):=nz f19 1 [] [] [] (zg [0,1,2] [t0,t1,t2]) w K
theorem Fw:AE t0 t1 t2 w k0->Calls ah 19 #[t0,t1,t2] w k0:=cw func19
def JD(t0 t1 w)(K:KT):=nz f7 1 [] [] [] (zg [0,1] [t0,t1]) w K
theorem Le:JD t0 t1 w k0->Calls ah 7 #[t0,t1] w k0:=cw func7
end
section
open Eng Go.RowKit
namespace Cs
def nbG:Nat->Int->Nat
|0,_=>0
|f+1,n=>if 0 < n then nbG f (n.fdiv 256)+1 else 0
def nb (n:Int):Nat:=nbG 4 n
def maxL (l:List Int):Int:=l.foldl (λm x=>max m x) 0
def wa (l:List Slt):Nat:=nb (maxL (l.map (·.a)))
def wb (l:List Slt):Nat:=nb (maxL (l.map (·.b)))
def num (n:Int):Nat->List UInt8
|0=>[]
|w+1=>UInt8.ofNat ((n / (256 ^ w)) % 256).toNat::num n w
theorem afH:∀(f:Nat) (n:Int),nbG f n<=f
|0,_=>auY _
|f+1,n=>by
  have:=afH f (n.fdiv 256);unfold nbG;split<;>omega
theorem amT (n:Int):nb n<=4:=afH 4 n
theorem yW (n:Int):∀w,(num n w).length=w
|0=>rfl
|w+1=>by unfold num;rw[avR,yW n w]
theorem QL (l:List Int)(x:Int):maxL (l++[x])=max (maxL l) x:=by unfold maxL;rw[aAK];rfl
end Cs
theorem Ny (n:Int)(w:ao):Ret ah 36 #[ad n] w (λv w'=>v=ad (Cs.nb n:Nat)∧w=w'):=by
 refine aL λK a=>JM ?_;unfold GN nz;refine loop (λvs W=>∃(m:Int) (k:Nat),vs=[ad m,ad (k:Int)]∧k<=4∧Cs.nb n=k+Cs.nbG (4 - k) m∧w=W) (λvs _=>4 - n1 vs) ⟨n,0,rfl,om,by simp[Cs.nb],rfl⟩ ?_;rintro vs c ⟨m,k,rfl,d,he,rfl⟩ _;simp only[Ct,gd,rs,nz];by_cases hm:0 < m
 ·simp only[auR hm,rs,iO];by_cases b:(k:Int) < 4
  ·simp only[auR b,i_t];rw[aA om om,F2 dc,show (2:Int) ^ min (8:Int).toNat IntKind.i64.bits=256 from rfl];refine aU ⟨m.fdiv 256,k+1,rfl,om,?_,rfl⟩ (by simp[n1,RowKit.intOf];omega);rw[he,show 4 - k=(4 - (k+1))+1 by omega,Cs.nbG,auP hm];omega
  ·simp only[auQ b,i_f];have:k=4:=om
   subst this;exact a _ _ ⟨by rw[he];rfl,rfl⟩
 ·simp only[auQ hm,rs,iO,i_f];refine a _ _ ⟨?_,rfl⟩;rw[he];cases h:4 - k with
 |zero=>rfl
 |succ f=>rw[Cs.nbG,auO hm];rfl
def w3C (a b:Int):List Value:=[ad 1,ad a,ad b]
def w3V (a b:Int):Value:=.agg (w3C a b).toArray
theorem agg3:By ah 45=ax 3:=krx
theorem sz3:(Tryz.prog.info? 45).map (·.size)=ax 3:=krx
def w0C:List Value:=[ad 0,ad 0,ad 0]
section
variable {w:ao}{PK:PKT}{K:VWP}{S:Nat->Prop}{w0:ao}{L T:List Ent}
theorem o_w3 (a:dQ S w0 w L)(k:∀b w',dQ S w0 w' (.cells b w0C 45::L)->K (af b 0) w'):DoX ah (iM 45) w PK K:=
 bB (λb=>af b 0) w0C 45 (λ_=>by kernel_rfl) a k
theorem afO (j:Nat){c:List aq}{d:Int}(g:c.length=3)(f:dQ S w0 w L)(hi:L[j]?=ax (.cells b c 45))(k:∀w',dQ S w0 w' (L.set j (.cells b (w3C a d) 45))->K undef w') :
  DoX ah (aV 45 (af b 0) (w3V a d)) w PK K:=by
 refine CP j f hi (new:=w3C a d) sz3 (λv h=>?_) (by rw[g];show 0+3<=3;omega) λw' f=>k w' ?_
 ·simp only[w3C,avB,awS,or_false] at h;rcases h with rfl|rfl|rfl<;>rfl
 ·have e:c.take 0++w3C a d++c.drop (0+(w3C a d).length)=w3C a d:=by
   rw[awK (by rw[g];show 3<=0+3;omega)];simp
  rw[e] at f;exact f
theorem m_w3 {b:Int}:DoX ah (aN 45 #[(0,ad 1),(1,ad a),(2,ad b)]) w PK K=K (w3V a b) w:=aC krx
end
theorem MD (l:List Slt)(v:aq)(M:Mem)(w:ao)(o:l.length<=1000000000)(f:M.has w)(h:SlA M.A M.w v 4 l.length (Il l)) :
  lA ah 12 #[v] M w (λr _=>r=w3V (Cs.wa l:Nat) (Cs.wb l:Nat)):=by
 refine aO f λK j=>HY ?_;unfold EX nz;refine o_w3 (dQ.memS f) λb2 p c=>?_;rw[aS ayF (h.now (c.hasM 1 rfl))];refine loop (λvs W=>∃(i:Nat),vs=[ad (Cs.maxL ((l.take i).map (·.a))),ad (Cs.maxL ((l.take i).map (·.b))),ad (i:Int)]∧i<=l.length∧dQ M.A w W [.cells b2 w0C 45,.mem M]) (λvs _=>l.length - (RowKit.intOf (vs.getD 2 undef)).toNat) ⟨0,rfl,om,c⟩ ?_;clear c;rintro vs w2 ⟨i,rfl,hi,c⟩ _;simp only[Ba,gd,rs,nz];by_cases d:(i:Int) < (l.length:Int)
 ·simp only[auR d,i_t];have e:i < l.length:=om
  obtain⟨g,off,k⟩:=rS h e;obtain⟨m,n⟩:=k w2 (c.hasM 1 rfl);refine aC m |>.mpr (aC (DN n) |>.mpr ?_);refine Np c λq w3 c=>?_;refine JE (y:=l[i]) 0 c rfl λs c=>?_;rw[Nz,aH aW (c.cell 0 rfl 2 rfl),sQ,OA,aH aW (c.cell 0 rfl 3 rfl),sQ]
  try simp only[rs]
  rw[aA om om];refine aU ⟨i+1,?_,om,c.tail⟩ (by simp[RowKit.intOf];omega);rw[Ir e,avT,avT,List.map_singleton,List.map_singleton,Cs.QL,Cs.QL];rfl
 simp only[auQ d,i_f];have:i=l.length:=om
 subst this;rw[awI];refine zq (Ny _ w2) ?_;refine zq (Ny _ w2) ?_;rw[m_w3];refine afO 0 rfl c rfl λw3 c=>?_;exact gC (bG (c.agg 0 rfl agg3)) (j _ _ M _ 1 c rfl M.le_refl rfl)
section
variable {w:ao}{PK:PKT}{K:VWP}{S:Nat->Prop}{w0:ao}{L T:List Ent}
theorem ccu8 {n:Int}:DoX ah (nG 3 5 (ad n)) w PK K=K (.int .u8 (IntKind.wrap .u8 n)) w:=aC krx
theorem K6 {n:Int}{wd:Nat}{ov:aq}{out:List UInt8}(b:dQ S w0 w (iS ov out::T))(hw:wd<=4)(o:out.length<=100000000)(k:∀a W,dQ S w0 W (iS a (out++Cs.num n wd)::T)->K a W) :
  eN ah 34 #[ov,ad n,ad (wd:Int)] w PK K:=by
 refine eR (Iq (k0:=zy λv W=>dQ S w0 W (iS v (out++Cs.num n wd)::T)) ?_) (λe W ⟨v,he,b⟩=>by subst he;exact k v W b);unfold Fj nz;simp only[rs];rw[aA om om];refine loop (λvs W=>∃(j:Nat) (a:aq) (q:List UInt8),vs=[a,ad ((j:Int) - 1)]∧j<=wd∧q++Cs.num n j=out++Cs.num n wd∧q.length<=out.length+wd∧dQ S w0 W (iS a q::T)) (λvs _=>(RowKit.intOf (vs.getD 1 undef)+1).toNat) ⟨wd,ov,out,rfl,om,rfl,om,b⟩ ?_;clear b;rintro vs p ⟨j,a,q,rfl,r,c,h,b⟩ _;simp only[A7,gd,rs,nz];by_cases l:0 < j
 ·simp only[show ai ((0:Int)<=(j:Int) - 1)=av from auR om,i_t];obtain⟨i,rfl⟩:∃i,j=i+1:=⟨j - 1,om⟩;rw[show ((i+1:Nat):Int) - 1=(i:Int) by omega];have m:i < 4:=om
  have d:n.fdiv (2 ^ min (8*(i:Int)).toNat IntKind.i64.bits)=n / 256 ^ i:=by
   rw[aBg _ (Int.le_of_lt (Int.pow_pos dc))]
   congr 1
   rcases (by omega:i=0∨i=1∨i=2∨i=3) with rfl|rfl|rfl|rfl<;>rfl
  rw[aA om om,F2 om,d,ccu8];have hu:IntKind.wrap .u8 (n / 256 ^ i)=((UInt8.ofNat ((n / 256 ^ i) % 256).toNat).toNat:Int):=by
   have g:=Int.emod_nonneg (n / 256 ^ i) (show (256:Int)≠0 by decide);have s:=Int.emod_lt_of_pos (n / 256 ^ i) (show (0:Int) < 256 by decide);rw[aA1,axC (show _ < 2 ^ 8 by omega)];show (n / 256 ^ i) % 256=_;omega
  rw[hu];refine Uh _ b om λf w2 b=>?_
  try simp only[rs]
  rw[aA om om];refine aU ⟨i,f,_,rfl,om,?_,?_,b⟩ (by simp[RowKit.intOf])
  ·rw[<-c,Cs.num,avO];try rfl
  ·have g:=congrArg List.length c;rw[auU,auU,Cs.yW,Cs.yW] at g;rw[auU];show _+1<=_;omega
 have:j=0:=om
 subst this;simp only[show ai ((0:Int)<=((0:Nat):Int) - 1)=au from rfl,i_f];have e:q=out++Cs.num n wd:=by rw[<-c];simp[Cs.num]
 rw[e] at b;exact⟨_,rfl,b⟩
end
def secC (x:Sec)(vs vk vc:aq):List Value:=[ad x.at_,vs]++(obC x.trailer vk vc++[ad x.prev,ad x.hybrid,ad x.own])
def Mk (x:Sec)(vs vk vc:aq):Value:=.agg (secC x vs vk vc).toArray
abbrev uN (b:Nat)(x:Sec)(vs vk vc:aq):Ent:=.cells b (secC x vs vk vc) 34
theorem QY:By ah 34=ax 11:=krx
theorem atB:(Tryz.prog.info? 34).map (·.size)=ax 11:=krx
theorem fse0:uM ah 34 0=ax 0:=krx
theorem fse1:uM ah 34 1=ax 1:=krx
theorem fse2:uM ah 34 2=ax 2:=krx
theorem fse3:uM ah 34 3=ax 8:=krx
theorem fse4:uM ah 34 4=ax 9:=krx
theorem fse5:uM ah 34 5=ax 10:=krx
theorem nSls:dP ah 32=true:=krx
theorem abU (x:Sec){vs:aq}(b:vs.oneCell'=av)(c:vk.oneCell'=av)(d:vc.oneCell'=av):∀v∈secC x vs vk vc,v.oneCell'=true:=by
 intro v a;simp only[secC,avZ,avB,awS,or_false] at a;rcases a with (rfl|rfl)|a|rfl|rfl|rfl
 ·rfl
 ·exact b
 ·exact mT x.trailer c d v a
 ·rfl
 ·rfl
 ·rfl
section
variable {w:ao}{PK:PKT}{K:VWP}{S:Nat->Prop}{w0:ao}{L:List Ent}
theorem X3 :DoX ah (mFA 34 (af b 0) 0) w PK K=K (af b 0) w:=aQ fse0
theorem LD :DoX ah (mFA 34 (af b 0) 1) w PK K=K (af b 1) w:=aQ fse1
theorem Qy :DoX ah (mFA 34 (af b 0) 2) w PK K=K (af b 2) w:=aQ fse2
theorem NA :DoX ah (mFA 34 (af b 0) 3) w PK K=K (af b 8) w:=aQ fse3
theorem ZL :DoX ah (mFA 34 (af b 0) 4) w PK K=K (af b 9) w:=aQ fse4
theorem P8 (a:dQ S w0 w L)(k:∀b w',dQ S w0 w' (uN b Tl.zJ dY dY dY::L)->K (af b 0) w'):DoX ah (iM 34) w PK K:=
 bB (λb=>af b 0) (secC Tl.zJ dY dY dY) 34 (λ_=>by kernel_rfl) a k
theorem E1 (i:Nat){x y:Sec}{vs vs' vk' vc':aq}(a:vs'.oneCell'=av)(c:vk'.oneCell'=av)(d:vc'.oneCell'=av)(e:dQ S w0 w L)(hi:L[i]?=ax (uN b x vs vk vc))(k:∀w',dQ S w0 w' (L.set i (uN b y vs' vk' vc'))->K undef w') :
  DoX ah (aV 34 (af b 0) (Mk y vs' vk' vc')) w PK K:=gF i e hi (new:=secC y vs' vk' vc') atB (abU y a c d) rfl k
theorem se_v (a:dQ S w0 w L)(i:Nat){x:Sec}{vs:aq}(hi:L[i]?=ax (uN b x vs vk vc)):DoX ah (aG 34 (af b 0)) w PK K=K (Mk x vs vk vc) w:=AT (a.agg i hi QY)
theorem anY (a:dQ S w0 w L)(i:Nat){x:Sec}{vs:aq}(hi:L[i]?=ax (uN b x vs vk vc)):DoX ah (aG 3 (af b 0)) w PK K=K (ad x.at_) w:=aH aW (a.cell i hi 0 rfl)
theorem Sw (a:dQ S w0 w L)(i:Nat){x:Sec}{vs:aq}(hi:L[i]?=ax (uN b x vs vk vc)):DoX ah (aG 32 (af b 1)) w PK K=K vs w:=aH nSls (a.cell i hi 1 rfl)
theorem aoU:DoX ah (aN 34 #[]) w PK K=K (Mk Tl.zJ dY dY dY) w:=aC krx
theorem aeA (x:Sec){vs:aq}(c:vs.oneCell'=av)(d:vk.oneCell'=av)(e:vc.oneCell'=av)(a:dQ S w0 w L)(k:∀b w',dQ S w0 w' (uN b x vs vk vc::L)->K (af b 0) w'):DoX ah (AS 34 (Mk x vs vk vc)) w PK K:=
 bB (λb=>af b 0) (secC x vs vk vc) 34 (λ_=>by kernel_rfl) a k
theorem abA (a:dQ S w0 w L)(i:Nat){x:Sec}{vs:aq}(hi:L[i]?=ax (uN b x vs vk vc)):DoX ah (aG 25 (af b 2)) w PK K=K (obV x.trailer vk vc) w:=
 AT (a.Y3 i hi 2 (obC x.trailer vk vc) rfl mQ)
theorem anN (a:dQ S w0 w L)(i:Nat){x:Sec}{vs:aq}(hi:L[i]?=ax (uN b x vs vk vc)):DoX ah (aG 3 (af b 2)) w PK K=K (ad x.trailer.k) w:=aH aW (a.cell i hi 2 rfl)
end
def SecV (N:Mem)(v:aq)(x:Sec):Prop:=∃vs vk vc,v=Mk x vs vk vc∧SlA N.A N.w vs 4 x.aR.length (x.aR.flatMap slC)∧OV N.A N.w (obV x.trailer vk vc) x.trailer
def WK:aq->Nat|.slice _ n _=>n|_=>0
namespace Ff
def Hu (o:Ob):List Ob:=match Vl.get o cT with|none=>[]|some f=>if f.k=6 then f.kids else [f]
def wK (o:Ob):List Ob×Int:=match Vl.get o gH with|none=>([],0)|some d=>if d.k=6 then (d.kids,0) else if d.k=7 then ([d],0) else ([],10)
def zO (o:Ob)(many:Nat):List Pm×Int:=
 if (wK o).2≠0 then ([],10)
 else if (wK o).1.any (λx=>ai ((BY x).2≠0))=av then ([],10)
 else if many < (wK o).1.length then ([],1)
 else if (wK o).1.any (λx=>!eight x)=av then ([],1)
 else ((wK o).1.map (λx=>(BY x).1)++List.replicate (many - (wK o).1.length) qY,0)
theorem TR {x:Ob}(h:x∈(wK o).1):x.wt<=o.wt:=by
 unfold wK at h;cases a:Vl.get o gH with
|none=>rw[a] at h;simp at h
|some f=>
  rw[a] at h;have b:=mi a;dsimp only at h;split at h
  ·obtain⟨i,hi,rfl⟩:=axT (show x∈f.kids from h);have:=Jf hi;omega
  split at h
  ·rw[avV.1 h];exact b
  ·simp at h
theorem GH {o:Ob}:o.kids.length<=o.wt:=by
 have:=Ob.pB o.kids;cases o;simp only[Ob.kids] at *;rw[Ob.wt];omega
theorem Pz (h:o.wt<=1000000000):(Hu o).length<=1000000000:=by
 unfold Hu;cases a:Vl.get o cT with
|none=>exact avK _
|some f=>
  have b:=mi a;dsimp only;split
  ·have:=@GH f;omega
  ·exact (by decide:(1:Nat)<=1000000000)
theorem Ql (h:o.wt<=1000000000):(wK o).1.length<=1000000000:=by
 unfold wK;cases a:Vl.get o gH with
|none=>exact avK _
|some f=>
  have b:=mi a;dsimp only;split
  ·have:=@GH f;show f.kids.length<=_;omega
  split
  ·exact (by decide:(1:Nat)<=1000000000)
  ·exact avK _
end Ff
section
variable {w:ao}{PK:PKT}{K:VWP}{S:Nat->Prop}{w0:ao}{L:List Ent}
structure Jh (M:Mem) (v:aq) (os:List Ob) (cs:List aq):Prop where
 sl:SlA M.A M.w v 6 os.length cs
 all:OVs M.A M.w cs os
theorem Jh.le {M N:Mem}{v:aq}{os:List Ob}{cs:List aq}(h:M.le N)(k:Jh M v os cs):Jh N v os cs:=⟨k.sl.le h,k.all.le h⟩
theorem apS (M:Mem):Jh M dY [] []:=⟨SlA.nil _ _ _ _,OVs.nil⟩
theorem FM (h:OV M.A M.w (obV o vk vc) o):∃cs,Jh M vc o.kids cs:=by
 obtain⟨cs,a⟩:=h.slices;exact⟨cs,a.kids,a.all⟩
theorem wI (h:Jh M v os cs):DoX ah (mB .len #[23] 3 #[au] #[v]) W PK K=K (ad (os.length:Int)) W:=by
 obtain⟨a,cap,rfl,_⟩:=h.sl.form;exact bP avI
theorem Lf (h:Jh M v os cs)(hi:i < os.length)(f:M.has w)(k:∀vk vc,OV M.A M.w (obV os[i] vk vc) os[i]->K (obV os[i] vk vc) w) :
  DoX ah (mIA 23 v (ad (i:Int))) w PK λt w=>DoX ah (aG 25 t) w PK2 K:=by
 obtain⟨b,off,vk,e,c,d,a⟩:=QX h.sl h.all hi;refine aC (c w) |>.mpr ?_;refine aC (bC (AtV.agg mQ (cs:=obC os[i] vk e) rfl (a w f))) |>.mpr ?_;exact k vk e d
theorem Yz (a:dQ S w0 w (.mem M::L))(hw:o.wt<=1000000000)(E:OV M.A M.w v o)
  (q:(∀x∈Ff.Hu o,x.k=5)->∀vn N W,M.le N->SlA N.A N.w vn 1 ((Ff.Hu o).map Ob.s).length (bT ((Ff.Hu o).map Ob.s))->dQ S w0 W (.mem N::L)->K vn W)
  (F:¬(∀x∈Ff.Hu o,x.k=5)->∀N W,M.le N->dQ S w0 W (.mem N::L)->PK [upF 10] W):eN ah 75 #[v] w PK K:=by
 obtain⟨vk,vc,P,rfl,G⟩:=E.open;have r:=Ff.Pz hw;generalize c:Ff.Hu o=X at q F r;unfold Ff.Hu at c;refine⟨HE ?_⟩;unfold Cq nz;refine dD o G.keys.one G.kids.one a λQ R a=>?_;rw[oV a 0 rfl];refine aY a 1 rfl (DZ o _ Ff.cT M R om (a.hasM 1 rfl) E) ?_;rintro _ N w2 hle ⟨x,rfl,b⟩ a;obtain⟨H,t,rfl,b⟩:=iC b;simp only[G5,ex];refine dF a λb3 w3 a=>?_;refine bK 0 b.oneK b.oneC a rfl λY a=>?_;rw[oV a 0 rfl];refine JH _ b.oneK b.oneC a λnb n a=>?_;have a:dQ S w0 n (obE nb ((Vl.get o Ff.cT).getD Vl.ob0) H t::obE b3 ((Vl.get o Ff.cT).getD Vl.ob0) H t::obE Q o vk vc::.mem N::L):=a;refine join λJ T=>?_;have main:∀(l:Mem) (u:aq) (cs:List aq) (W:ao),M.le l->Jh l u X cs->dQ S w0 W (.mem l::L)->J [u] W:=by
  intro l u cs W g d a;refine T _ _ λ_=>?_;simp only[wF,gd,nz];rw[wI d];have a:=dQ.nilU a 9 1;refine loop (λvs W=>∃(i:Nat) (ov:aq),vs=[ov,ad (i:Int)]∧i<=X.length∧(∀x∈X.take i,x.k=5)∧dQ S w0 W (stsE ov ((X.take i).map Ob.s)::.mem l::L)) (λvs _=>X.length - n1 vs) ⟨0,dY,rfl,om,sm,a⟩ ?_;clear a;rintro vs U ⟨i,ov,rfl,hi,y,a⟩ _;simp only[xD,gd,rs,nz];by_cases m:(i:Int) < (X.length:Int)
  case neg=>
   simp only[m,auT,i_f];have:i=X.length:=om
   subst this;rw[awI] at y a;obtain⟨z,B,j,a⟩:=a.bH 0 rfl;exact q y ov z U (g.trans B) j a
  simp only[m,auS,i_t];have e:i < X.length:=om
  refine Lf d e (a.hasM 1 rfl) λZ yc I=>?_;refine dF a λb8 w7 a=>?_;refine bK 0 I.oneK I.oneC a rfl λV a=>?_;rw[cO,zn a 0 rfl];simp only[rs];refine rD (λh=>?_) (λh=>?_)
  rotate_left
  ·exact F (λk=>(avU h) (k _ (avD e))) l V g a.tail.tail
  have h:=avG h;rw[yK,I0 a 0 rfl];refine UM _ a.tail (by rw[avS,avA];omega) λC W2 a=>?_
  try simp only[rs]
  rw[aA om om];refine aU ⟨i+1,C,rfl,om,?_,?_⟩ (by simp[n1,RowKit.intOf];omega)
  ·rw[avP e];intro x b;rcases avZ.1 b with b|b
   ·exact y x b
   ·rw[avV.1 b];exact h
  ·rw[avP e,avT];exact a
 cases O:Vl.get o Ff.cT with
|none=>
  rw[O] at c;dsimp only at c;subst c;simp only[awT,rs,awA,i_t];exact q sm dY N n hle (SlA.nil _ _ _ _) a.tail.tail.tail
|some f=>
  rw[O] at c a b;dsimp only at c;rw[awN] at a b;simp only[awU,rs,avY,i_f];rw[cO,zn a 1 rfl];simp only[rs];by_cases p:f.k=6
  ·rw[auP p] at c;subst c;simp only[p,auS,i_t];rw[eW,bW a 1 rfl];obtain⟨cs,d⟩:=FM b;exact main N t cs n hle d a.tail.tail.tail
  ·rw[auO p] at c;subst c;simp only[p,auT,i_f];obtain⟨z,B,j,D,a⟩:=Py a 2 rfl b;exact main z _ _ n (hle.trans B) ⟨j,D⟩ a.tail.tail
theorem acQ {many:Nat}(b:dQ S w0 w (.mem M::L))(hw:o.wt<=1000000000)(hm:many<=1000000000)(hv:OV M.A M.w v o)
  (Z:(Ff.zO o many).2=0->∀vp N W,M.le N->SlA N.A N.w vp 3 (Ff.zO o many).1.length ((Ff.zO o many).1.flatMap pmC)->dQ S w0 W (.mem N::L)->K vp W)
  (kf:(Ff.zO o many).2≠0->∀N W,M.le N->dQ S w0 W (.mem N::L)->PK [upF (Ff.zO o many).2] W):eN ah 77 #[v,ad (many:Int)] w PK K:=by
 obtain⟨vk,vc,b6,rfl,ha⟩:=hv.open;have H:=Ff.Ql hw;have y:∀x∈(Ff.wK o).1,x.wt<=1000000000:=λx c=>by have:=Ff.TR c;omega
 generalize m:Ff.zO o many=X at Z kf;unfold Ff.zO at m;generalize r:Ff.wK o=D at m H y;obtain⟨l,de⟩:=D;unfold Ff.wK at r;dsimp only at m H y;refine⟨Ic ?_⟩;unfold Fa nz;refine dD o ha.keys.one ha.kids.one b λb1 w1 b=>?_;refine join λJ hJ=>?_;rw[oV b 0 rfl];refine aY b 1 rfl (DZ o _ Ff.gH M w1 om (b.hasM 1 rfl) hv) ?_;rintro _ N w2 hle ⟨x,rfl,c⟩ b;obtain⟨xk,xc,rfl,c⟩:=iC c;simp only[G5,ex];refine dF b λb3 w3 b=>?_;refine bK 0 c.oneK c.oneC b rfl λw4 b=>?_;have b:dQ S w0 w4 (obE b3 ((Vl.get o Ff.gH).getD Vl.ob0) xk xc::obE b1 o vk vc::.mem N::L):=b;have fail:∀{e:Int} {t:Mem} {W:ao},X=([],e)->e≠0->M.le t->dQ S w0 W (.mem t::L)->PK [upF e] W:=by
  intro e t W he I g b;rw[he] at kf;exact kf I t W g b
 have main:de=0->∀(t:Mem) (vl:aq) (cs:List aq) (W:ao),M.le t->Jh t vl l cs->dQ S w0 W (.mem t::L)->J [vl] W:=by
  intro a1 t vl cs W g p b;rw[auO (by rw[a1];decide)] at m;refine hJ _ _ λ_=>?_;simp only[AG,gd,nz];rw[wI p];have b:=dQ.nilU b 73 3;refine loop (λvs W=>∃(i:Nat) (ov:aq) (z:Mem),vs=[ov,ad (i:Int)]∧i<=l.length∧(∀x∈l.take i,(Ff.BY x).2=0)∧t.le z∧dQ S w0 W (FG ov ((l.take i).map λx=>(Ff.BY x).1)::.mem z::L)) (λvs _=>l.length - n1 vs) ⟨0,dY,t,rfl,om,sm,t.le_refl,b⟩ ?_;clear b;rintro vs w6 ⟨i,ov,z,rfl,hi,I,B,b⟩ _;simp only[Bg,gd,rs,nz];by_cases n:(i:Int) < (l.length:Int)
  ·simp only[n,auS,i_t];have d:i < l.length:=om
   refine Lf (p.le B) d (b.hasM 1 rfl) λT U F=>?_;refine dF b λV w7 b=>?_;refine bK 0 F.oneK F.oneC b rfl λG b=>?_;rw[oV b 0 rfl];have b:dQ S w0 G ([obE V l[i] T U,FG ov ((l.take i).map λx=>(Ff.BY x).1)]++([.mem z]++L)):=b;refine anD b.front (by have:=y _ (avD d);omega) F (λe0 u W2 E b=>?_) (λe0 u W2 E b=>?_)
   rotate_left
   ·refine fail (e:=10) ?_ dc ((g.trans B).trans E) (b.sub (.cons_cons _ (.cons _ (.cons _ (axX _)))));rw[auP (awV.2 ⟨_,avD d,auR (by rw[e0];decide)⟩)] at m;exact m.symm
   have b:dQ S w0 W2 ([.mem u,obE V l[i] T U]++([FG ov ((l.take i).map λx=>(Ff.BY x).1)]++L)):=b;have b:=b.front;have b:dQ S w0 W2 (FG ov ((l.take i).map λx=>(Ff.BY x).1)::.mem u::obE V l[i] T U::L):=b;refine TO _ b (by rw[avS,avA];omega) λC W3 b=>?_
   try simp only[rs]
   rw[aA om om];refine aU ⟨i+1,C,u,rfl,om,?_,B.trans E,?_⟩ (by simp[n1,RowKit.intOf];omega)
   ·rw[avP d];intro x c;rcases avZ.1 c with c|c
    ·exact I x c
    ·rw[avV.1 c];exact e0
   ·rw[avP d,avT];exact b.sub (.cons_cons _ (.cons_cons _ (.cons _ (axX _))))
  simp only[n,auT,i_f];have:i=l.length:=om
  subst this;rw[awI] at I b;rw[auO (λh=>by
   obtain⟨x,c,h⟩:=awV.1 h;exact (avG h) (I x c))] at m
  rw[wI p];simp only[rs];refine rD (λh=>?_) (λh=>?_)
  rotate_left
  ·have:=avU h;rw[auP om] at m;exact fail m.symm dc (g.trans B) b.tail
  have b7:=avG h;rw[auO om] at m;rw[wI p];generalize a6:(l.map λx=>(Ff.BY x).1)=ps at m b;have O:ps.length=l.length:=by rw[<-a6,avS]
  refine loop (λvs W=>∃(i:Nat) (u:Mem),vs=[ad (i:Int)]∧i<=l.length∧(∀x∈l.take i,Ff.eight x=av)∧z.le u∧dQ S w0 W (FG ov ps::.mem u::L)) (λvs _=>l.length - n0 vs) ⟨0,z,rfl,om,sm,z.le_refl,b⟩ ?_;clear b;rintro vs w7 ⟨i,u,rfl,hi,h8,E,b⟩ _;simp only[A6,gd,rs,nz];by_cases n:(i:Int) < (l.length:Int)
  ·simp only[n,auS,i_t];have d:i < l.length:=om
   refine Lf ((p.le B).le E) d (b.hasM 1 rfl) λT U F=>?_;refine dF b λV G b=>?_;refine bK 0 F.oneK F.oneC b rfl λw9 b=>?_;rw[oV b 0 rfl];refine aY b 2 rfl (Vn l[i] _ u w9 (by have:=y _ (avD d);omega) (b.hasM 2 rfl) F) ?_;rintro _ N4 b9 l4 rfl b;refine rD (λh=>?_) (λh=>?_)
   rotate_left
   ·rw[auP (awV.2 ⟨_,avD d,by rw[h];rfl⟩)] at m;exact fail m.symm dc (((g.trans B).trans E).trans l4) b.tail.tail
   try simp only[rs]
   rw[aA om om];refine aU ⟨i+1,N4,rfl,om,?_,E.trans l4,b.tail⟩ (by simp[n0,RowKit.intOf];omega);rw[avP d];intro x c;rcases avZ.1 c with c|c
   ·exact h8 x c
   ·rw[avV.1 c];exact h
  simp only[n,auT,i_f];have:i=l.length:=om
  subst this;rw[awI] at h8;rw[auO (λh=>by
   obtain⟨x,c,h⟩:=awV.1 h;rw[h8 x c] at h;cases h)] at m
  refine loop (λvs W=>∃(j:Nat) (ov:aq),vs=[ov]∧l.length+j<=many∧dQ S w0 W (FG ov (ps++List.replicate j Ff.qY)::.mem u::L)) (λvs _=>many - WK (vs.getD 0 undef)) ⟨0,ov,rfl,om,by rw[aBj,awF];exact b⟩ ?_;clear b;rintro vs G ⟨j,ov,rfl,hj,b⟩ _;have P:(ps++List.replicate j Ff.qY).length=l.length+j:=by rw[auU,awJ,O]
  have a7:∃a cap,ov=.slice a (l.length+j) cap:=by
   obtain⟨_,a,cap,h,_⟩:=Sl.urow (b.at_ 0 rfl);exact⟨a,cap,by rw[h,P]⟩
  obtain⟨a,cap,Q⟩:=a7;simp only[AM,gd,nz];rw[show DoX ah (mB .len #[75] 3 #[au] #[ov]) G=DoX ah (mB .len #[75] 3 #[au] #[.slice a (l.length+j) cap]) G by rw[Q],bP azG];simp only[rs];by_cases n:((l.length+j:Nat):Int) < (many:Int)
  ·simp only[n,auS,i_t];refine aI b (IM G) ?_;rintro _ w9 rfl b;refine TO _ b (by rw[P];omega) λC W3 b=>?_;have b:dQ S w0 W3 (FG C (ps++List.replicate (j+1) Ff.qY)::.mem u::L):=by
    rw[aAZ,<-avO];exact b
   have R:(ps++List.replicate (j+1) Ff.qY).length=l.length+(j+1):=by rw[auU,awJ,O]
   refine aU ⟨j+1,C,rfl,om,b⟩ ?_;obtain⟨_,a',b5,h',_⟩:=Sl.urow (b.at_ 0 rfl);rw[Q,h',R];show many - (l.length+(j+1)) < many - (l.length+j);omega
  simp only[n,auT,i_f];have a8:j=many - l.length:=om
  subst a8;rw[<-m] at Z;obtain⟨N5,l5,b0,b⟩:=b.bH 0 rfl;exact Z rfl ov N5 G (((g.trans B).trans E).trans l5) b0 b
 cases hg:Vl.get o Ff.gH with
|none=>
  rw[hg] at r;dsimp only at r
  injection r with s q
  subst s;simp only[awT,rs,i_f];exact main q.symm N dY [] w4 hle (apS N) b.tail.tail
|some f=>
  rw[hg] at r b c;dsimp only at r;rw[awN] at b c;simp only[awU,i_t];rw[oV b 0 rfl];refine JH _ c.oneK c.oneC b λnb w5 b=>?_;rw[cO,zn b 1 rfl];simp only[rs];by_cases Y:f.k=6
  ·rw[auP Y] at r
   injection r with s q
   subst s;simp only[Y,auS,i_t];rw[eW,bW b 1 rfl];obtain⟨cs,p⟩:=FM c;exact main q.symm N xc cs w5 hle p b.tail.tail.tail
  rw[auO Y] at r;simp only[Y,auT,i_f];rw[cO,zn b 1 rfl];simp only[rs];refine rD (λh=>?_) (λh=>?_)
  ·rw[auP (avG h)] at r
   injection r with s q
   subst s;obtain⟨z,B,b2,b4,b⟩:=Py b 2 rfl c;exact main q.symm z _ _ w5 (hle.trans B) ⟨b2,b4⟩ b.tail.tail
  ·rw[auO (avU h)] at r
   injection r with s q
   rw[auP (by rw[<-q];decide)] at m;exact fail m.symm dc hle b.tail.tail.tail
end
end
namespace Eng
theorem CN {f:FuncId}{o c:Oper}{rest:Code}{args:List aq}{R:Ending->FrameMode->ao->Prop}{n d2:Nat}{J:List (Nat×List Nat)}{rs:List ResultVar}
  (L:P.funcs[f]?=ax fn) (M:fn.body=ax (.seq (.region id #[o,c] au) rest)) (N:o.op=.call { callee:=.builtin .recover,args:=#[],argTypes:=#[] }) (O:o.guard=aw) (I:o.dst=ax d) (C:Nat.blt d n=av)
  (D:c.op=.assign (.tmp d)) (E:c.guard=aw) (q:c.dst=ax d2) (r:Nat.blt d2 n=av)
  (Q:fn.ntmps=n) (F:fn.results.toList=rs) (S:Nat.ble args.length n=av)
  (h:wpX P n aj J aw rest (topD P rs (λe w'=>R e (Al u) w')) (upd (upd (jX args) d (zw u)) d2 (zw u)) [] w) (T:Gq rest=false:=by kernel_rfl):CallsD P f args.toArray u w R:=by
 refine callsD_of_wpS L M λp cs hu=>?_;rw[Q];refine wpS_seq (wpS_region ?_);have hex:∀ρ:Operand->aq,(execOp ρ o).run P w=.ok .recover w:=by
  intro ρ;unfold execOp;rw[N];simp[resolve,invoke,builtin,bind,pure,Sem.bind,Sem.run]
 have s:=HP (args:=args) S;have b:Rep n (upd (jX args) d (zw u)) (({ tmps:=args.toArray++Array.replicate (n - args.toArray.size) undef,defers:=[] }:Act).put o.dst (zw u)).tmps:=by
  rw[I];exact Rep.put (a:={ tmps:=args.toArray++Array.replicate (n - args.toArray.size) undef,defers:=[] }) s (d:=ax d) C (zw u)
 have g:(({ tmps:=args.toArray++Array.replicate (n - args.toArray.size) undef,defers:=[] }:Act).put o.dst (zw u)).defers=[]:=by rw[I];rfl
 obtain⟨B,i⟩:∃A,A=({ tmps:=args.toArray++Array.replicate (n - args.toArray.size) undef,defers:=[] }:Act).put o.dst (zw u):=⟨_,rfl⟩;rw[<-i] at b g;have t:(execOp B.eval c).run P w=.ok (.value (zw u)) w:=by
  rw[Rep.eval b];unfold execOp;rw[D];simp[rd,upd,pure,Sem.run]
 have key:wpOpsS P #[o,c] (Exit.thenS (rest.wpS P (bodyPostS P fn p cs R)) (bodyPostS P fn p cs R)) [1] B ({ p with mode:=Al u }::cs) w:=by
  unfold wpOpsS;simp only[aA9,awH,azT];rw[auP (by simp[Region.wanted,E]),t];simp only[Oper.upon];have j:Rep n (upd (upd (jX args) d (zw u)) d2 (zw u)) (B.put c.dst (zw u)).tmps:=by
   rw[q];exact Rep.put b (d:=ax d2) r (zw u)
  have k:(B.put c.dst (zw u)).defers=[]:=by rw[q];exact g
  refine wpS_of_wp (Code.wp_mono ?_ (wpIn_wide.1 (MJ rest aw _ _ _ w j (by rw[k];exact h) T)));rintro e a w' ⟨σ,U,l⟩;have y:∀K:Ending->ao->Prop,RetD P (IN σ rs) w' K->∃v,(results fn a.tmps).run P w'=.ok v w'∧K (.returned v) w':=λK l=>by
   rw[DU U,F];exact KJ l
  generalize m:a.defers=ds at l;cases e<;>cases ds<;>first|(exact l.elim;done)|skip
  ·obtain⟨v,G,H⟩:=y (λe w'=>R e (Al u) w') l;exact⟨m,Al u,rfl,v,G,H⟩
  ·obtain⟨v,G,H⟩:=y (λe w'=>R e (Al u) w') l;exact⟨m,Al u,rfl,v,G,H⟩
  ·exact⟨m,Al u,rfl,l⟩
 have e:=rec_eq p cs;rw[hu] at e;show wpOpsS P #[o,c] _ [0,1] _ (p::cs) w;unfold wpOpsS;simp only[aA9,azT];rw[auP (by simp[Region.wanted,O])];rw[hex];cases z:recoverD (p::cs) with
|none=>
  rw[z] at e;simp only[azA] at e;simp only;rw[e.1,e.2,<-i];exact key
|some x=>
  obtain⟨v,V⟩:=x;rw[z] at e;simp only[azA] at e;simp only;rw[e.1,e.2,<-i];exact key
end Eng
section
open Eng
def dB(w)(K:KT):=
 K (.returned (.tuple #[])) w
def yM(c a b d w)(K:KT):=
 DrawX w (λw=>(fax 110 d 0 w K λe w=>(ldx 35 e w K λf w=>stx 22 c (.slice aw 0 0) w K λ_ w=>stx 75 a (.slice aw 0 0) w K λ_ w=>stx 35 b f w K λ_ w=>dB w K)∧(stx 22 c (.slice aw 0 0) w K λ_ w=>(ldx 35 e w K λh w=>stx 75 a (.slice aw 0 0) w K λ_ w=>stx 35 b h w K λ_ w=>dB w K)∧(stx 75 a (.slice aw 0 0) w K λ_ w=>ldx 35 e w K λi w=>stx 35 b i w K λ_ w=>dB w K)))∧(stx 22 c (.slice aw 0 0) w K λ_ w=>(fax 110 d 0 w K λg w=>(ldx 35 g w K λj w=>stx 75 a (.slice aw 0 0) w K λ_ w=>stx 35 b j w K λ_ w=>dB w K)∧(stx 75 a (.slice aw 0 0) w K λ_ w=>ldx 35 g w K λk w=>stx 35 b k w K λ_ w=>dB w K))∧(stx 75 a (.slice aw 0 0) w K λ_ w=>fax 110 d 0 w K λl w=>ldx 35 l w K λm w=>stx 35 b m w K λ_ w=>dB w K)))
def gB(c d e r w)(K:KT):=
 eqx .neq 20 (.tmp 7) (.const .nilIface) r .nilIface w K λf w=>IfX f (dx (mTA r 20 110 av) w K λa w=>exx a 0 w K λg w=>exx a 1 w K λh w=>alx 110 w K λb w=>stx 110 b g w K λ_ w=>zP (λj=>dx (mUn .not h) w K λi w=>IfX i (dx (G3 r) w K λ_ w=>j [] w) (j [] w)) (λk w=>∀_:Sg,yM c d e b w K)) (K (.returned (.tuple #[])) w)
theorem Hj (t0 t1 t2 r:aq)(w:ao)(K:Ending->ao->Prop):wpX ah 19 [(5,[])] [] aw (Yj (wG f73)) (topD ah [] K) (upd (upd (jX [t0,t1,t2]) 6 r) 3 r) [] w=gB t0 t1 t2 r w K:=krx
theorem jC {t2:aq}{R:Ending->FrameMode->ao->Prop}(h:gB t0 t1 t2 (zw u) w (λe w=>R e (Al u) w)):CallsD ah 73 #[t0,t1,t2] u w R:=
 CN func73 rfl rfl rfl rfl rfl rfl rfl rfl rfl rfl rfl rfl (Eq.mpr (Hj t0 t1 t2 (zw u) w _) h)
end
end Go.Proofs.YtkghomgfocpgeaaGreatDoor
