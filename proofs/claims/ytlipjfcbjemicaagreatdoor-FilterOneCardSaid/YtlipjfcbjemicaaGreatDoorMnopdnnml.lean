/- Texts that go together: FeL FeM FeO LayR FeN FeU FeV. -/
import Derived.Test.YtlipjfcbjemicaaGreatDoorMgognhkgj
set_option linter.defProp false
set_option linter.unusedSimpArgs false
set_option linter.unusedVariables false
set_option maxRecDepth 20000
open Go.Proofs.Tryz
open Go.Proofs.Tryz renaming prog->ah
open Option renaming some->aw,none->av
open Bool renaming true->au,false->aq
open Go renaming Value->ao,World->ak
open Decidable renaming decide->ai
namespace Go.Proofs.YtlipjfcbjemicaaGreatDoor
variable{K:VWP}{M:Eng.Mem}{PK:PKT}{W w:ak}{a:Int}{b i sz:Nat}{cs:List ao}{os:List Ob}{v:ao}{xo yo:Operand}
section
open Eng Go.RowKit
namespace Ff
def smpA:Ob:=.mk 6 0 0 [] [] [ob1 5 0 0 [65,72,120],ob1 5 0 0 [70,108]]
def smp1:Ob:=.mk 9 0 0 [] [dQ] [smpA]
def smpD:Ob:=.mk 7 0 0 [] [] []
def smpX:Ob:=.mk 9 0 0 [2,52,65,62,128] [dQ] [.mk 6 0 0 [] [] [uT nRL,uT nHx]]
theorem adW:of smp1=([nHx,nFl],[dO,dO],0):=krx
theorem ajT:of Vl.ob0=([],[],10):=krx
theorem acT:oneA [65,72,120] [74]=[52,65,62]:=krx
theorem Zq:undo nHx dO [52,97,62]=([74],0):=krx
theorem YL:undo [76,90,87,68,101,99,111,100,101] dO []=([],15):=krx
theorem adP:enc0 smpD [[82,76],[65,72,120]] [74]=(smpX,0):=krx
theorem abQ:decode smpX=([74],0):=krx
theorem Y4:∀x∈(of smpX).2.1,x.p=1:=by
 have e:(of smpX).2.1=[dO,dO]:=krx
 rw[e];intro x hx;rw[aqZ (n:=2) (a:=dO) hx];rfl
end Ff
theorem VO {T:TypeId}{a:List UInt8}:(mEq .eql T xo yo (.string ⟨a.toArray⟩) (.string ⟨a.toArray⟩)).run ah w=.ok (.value (.bool au)) w:=by
 refine bK ?_;simp[eqGuard,binOp,Op.stringOp,jK]
section
variable {S:Nat->Prop}{w0 w:ak}{L:List Ent}
theorem JQ {n:Nat}{T:TypeId}(hl:cs.length=n*sz)(hn:0 < n)(ho:OwnS S w0 w (.cells b cs T::L))(i:Nat)(hi:L[i]?=aw (.mem M)) :
  ∃N:Mem,M.le N∧SlA N.A N.w (.slice (aw ⟨b,0,av⟩) n n) sz n cs∧OwnS S w0 w (L.set i (.mem N)):=by
 have hs:=ho.sl 0 rfl sz n n hl;obtain⟨N,h1,h2,h3,h4⟩:=ho.freeze i hi;refine⟨N,h1,⟨?_,λp l c e _=>?_,λa l c e=>?_⟩,h4⟩
 ·rw[h2];exact hs
 ·injection e with e1 _ _
  injection e1 with e1
  rw[<-e1];exact h3 b rfl
 ·injection e with _ e2 e3
  omega
end
theorem Qh :(mEq .eql 30 xo yo (.int .i64 a) (.int .i64 a)).run ah w=.ok (.value (.bool au)) w:=bK (by simp[eqGuard,binOp,Op.intCmp])
theorem aiH :(mEq .eql 3 xo yo (.int .i64 a) (.int .i64 a)).run ah w=.ok (.value (.bool au)) w:=bK (by simp[eqGuard,binOp,Op.intCmp])
theorem CS {a b:ao}:(eH (.bool au) a b).run ah w=.ok (.value a) w:=by simp[eH,asBool]
theorem anP {a b:Option Addr}{n n2 c c2:Nat}{ks:List (List UInt8)}:DoX ah (bA 25 #[(0,.int .i64 9),(4,.slice a n c),(5,.slice b n2 c2)]) w PK K=K (obV (.mk 9 0 0 [] ks os) (.slice a n c) (.slice b n2 c2)) w:=aC krx
theorem PM (M:Mem)(w:ak)(hrp:Rp M)(hod:Od M)(hpw:Pws M)(hM:M.has w):RetM ah 12 #[] M w (λr _=>r=.bool au):=by
 refine aU hM λK hK=>xX ?_;unfold pE iN dx ldx exx stx alx cx;have ho:OwnS M.A w w [.mem M]:=OwnS.memS hM
 -- the sample
 refine bD (λb=>.slice (aw ⟨b,0,av⟩) 1 1) (cD [Ff.dQ]) 9 (λ_=>by kernel_rfl) ho λb19 w1 ho=>?_;obtain⟨N1,l1,hs1,ho⟩:=JQ (sz:=1) (n:=1) rfl dc ho 0 rfl;refine aH ho (Lc [65,72,120] w1) ?_;rintro _ w2 rfl ho;refine aH ho (Lc [70,108] w2) ?_;rintro _ w3 rfl ho;refine bD (λb=>.slice (aw ⟨b,0,av⟩) 2 2) (nmC [65,72,120]++nmC [70,108]) 25 (λ_=>by kernel_rfl) ho λb22 w4 ho=>?_;obtain⟨N2,l2,hs2,ho⟩:=JQ (sz:=6) (n:=2) rfl dc ho 0 rfl;have hall2:OVs N2.A N2.w (nmC [65,72,120]++nmC [70,108]) [ob1 5 0 0 [65,72,120],ob1 5 0 0 [70,108]]:=by
  have:=QO (A:=N2.A) (W:=N2.w) [[65,72,120],[70,108]];exact this
 refine aH ho (SW (aw ⟨b22,0,av⟩) 2 2 [ob1 5 0 0 [65,72,120],ob1 5 0 0 [70,108]] w4) ?_;rintro _ w5 rfl ho;have hA:OV N2.A N2.w (obV Ff.smpA nilS (.slice (aw ⟨b22,0,av⟩) 2 2)) Ff.smpA:=ObAt.ov (o:=Ff.smpA) (vk:=nilS) (cs:=nmC [65,72,120]++nmC [70,108]) ⟨SlA.nil _ _ _ _,hs2,hall2⟩;refine Lp Ff.smpA (vk:=nilS) (vc:=.slice (aw ⟨b22,0,av⟩) 2 2) rfl rfl ho λb24 w6 ho=>?_;obtain⟨N3,l3,hs3,ha3,ho⟩:=Ql ho 0 rfl hA;rw[anP (ks:=[Ff.dQ]) (os:=[Ff.smpA])];have h1:OV N3.A N3.w (obV Ff.smp1 (.slice (aw ⟨b19,0,av⟩) 1 1) (.slice (aw ⟨b24,0,av⟩) 1 1)) Ff.smp1:=ObAt.ov (o:=Ff.smp1) (cs:=obC Ff.smpA nilS (.slice (aw ⟨b22,0,av⟩) 2 2)) ⟨(hs1.le l2).le l3,hs3,ha3⟩;refine jH ho λb1 w7 ho=>?_;refine cE 0 (o':=Ff.smp1) (vk':=.slice (aw ⟨b19,0,av⟩) 1 1) (vc':=.slice (aw ⟨b24,0,av⟩) 1 1) rfl rfl ho rfl λw8 ho=>?_;rw[ob_v ho 0 rfl];refine bI ho 1 rfl (Jm Ff.smp1 _ N3 w8 dc (ho.hasM 1 rfl) h1) ?_;rw[Ff.adW];rintro _ N4 w9 l4 ⟨vn,vp,rfl,hn,hp⟩ ho;simp only[ex,gY (show [vn,vp,Value.int .i64 0][2]?=aw (Value.int .i64 0) from rfl),gY (show [vn,vp,Value.int .i64 0][1]?=aw vp from rfl),gY (show [vn,vp,Value.int .i64 0][0]?=aw vn from rfl)];rw[afJ];refine adE ho λb5 w10 ho=>?_;refine Sx 0 Ff.dO ho rfl λw11 ho=>?_;have ho:OwnS M.A w w11 [pmE b5 Ff.dO,obE b1 Ff.smp1 (.slice (aw ⟨b19,0,av⟩) 1 1) (.slice (aw ⟨b24,0,av⟩) 1 1),.mem N4]:=ho;have hle4:=((l1.trans l2).trans l3).trans l4;rw[pm_v ho 0 rfl];refine aH ho (Vj [65,72,120] Ff.dO [74] w11 (.inl dc) dc) ?_;rintro _ w12 rfl ho;rw[Ff.acT];simp only[zlT,ex];rw[pm_v ho 0 rfl];refine bI ho 2 rfl (IW Ff.nHx Ff.dO (pdR1 rfl) [52,97,62] N4 w12 (hrp.le hle4) (hod.le hle4) (hpw.le hle4) dc (ho.hasM 2 rfl)) ?_;rintro _ N5 w13 l5 ⟨rfl,_⟩ ho;rw[Ff.Zq];simp only[zlT,ex];rw[pm_v ho 0 rfl];have hle5:=hle4.trans l5;rw[show (Value.string ⟨#[]⟩)=.string ⟨([]:List UInt8).toArray⟩ from rfl];refine bI ho 2 rfl (IW [76,90,87,68,101,99,111,100,101] Ff.dO (pdR1 rfl) [] N5 w13 (hrp.le hle5) (hod.le hle5) (hpw.le hle5) dc (ho.hasM 2 rfl)) ?_;rintro _ N6 w14 l6 ⟨rfl,_⟩ ho;rw[Ff.YL];simp only[zlT,ex];have hle6:=hle5.trans l6;refine aC (show (bA 25 #[(0,.int .i64 7)]).run ah w14=.ok (.value (obV Ff.smpD nilS nilS)) w14 by kernel_rfl) |>.mpr ?_;refine bD (λb=>.slice (aw ⟨b,0,av⟩) 2 2) (cD [[82,76],[65,72,120]]) 9 (λ_=>by kernel_rfl) ho λb50 w15 ho=>?_;have ho:OwnS M.A w w15 [.cells b50 (cD [[82,76],[65,72,120]]) 9,pmE b5 Ff.dO,obE b1 Ff.smp1 (.slice (aw ⟨b19,0,av⟩) 1 1) (.slice (aw ⟨b24,0,av⟩) 1 1),.mem N6]:=ho;obtain⟨N7,l7,hs7,ho⟩:=JQ (sz:=1) (n:=2) rfl dc ho 2 rfl;have ho:OwnS M.A w w15 [pmE b5 Ff.dO,obE b1 Ff.smp1 (.slice (aw ⟨b19,0,av⟩) 1 1) (.slice (aw ⟨b24,0,av⟩) 1 1),.mem N7]:=ho;have hD:OV N7.A N7.w (obV Ff.smpD nilS nilS) Ff.smpD:=ObAt.ov (o:=Ff.smpD) (vk:=nilS) (vc:=nilS) (cs:=[]) ⟨SlA.nil _ _ _ _,SlA.nil _ _ _ _,OVs.nil⟩;refine bI ho 2 rfl (OS Ff.smpD _ [[82,76],[65,72,120]] _ [74] N7 w15 (hpw.le (hle6.trans l7)) (.inr rfl) dc sm (λn hn=>by
  rcases aoM.1 hn with rfl|hn
  ·exact .inr dc
  ·rw[aoZ.1 hn];exact .inl dc) (λi=>by
  rcases (by omega:i=0∨i=1∨2<=i) with rfl|rfl|h
  ·decide +kernel
  ·decide +kernel
  ·rw[apR (by simpa using h)];decide) dc (by decide +kernel) (by decide +kernel) (by decide +kernel) (ho.hasM 2 rfl) hD hs7) ?_
 rw[Ff.adP];rintro _ N8 w16 l8 ⟨xv,rfl,hX⟩ ho;obtain⟨xk,xc,xcs,rfl,hxa⟩:=hX.open;dsimp only at hxa hX;simp only[errV,ex];refine jH ho λb12 w17 ho=>?_;refine cE 0 hxa.keys.one hxa.kids.one ho rfl λw18 ho=>?_;rw[ob_v ho 0 rfl];have hle8:=(hle6.trans l7).trans l8;refine bI ho 3 rfl (Tn Ff.smpX (λx h=>pdR1 (Ff.Y4 x h)) _ N8 w18 (hrp.le hle8) (hod.le hle8) (hpw.le hle8) dc (ho.hasM 3 rfl) hX) ?_;rintro _ N9 w19 l9 rfl ho;rw[Ff.abQ];simp only[zlT,ex];rw[OX];refine bI ho 3 rfl (Jm Vl.ob0 _ N9 w19 dc (ho.hasM 3 rfl) (JD N9)) ?_;rw[Ff.ajT];rintro _ N10 w20 l10 ⟨zn,zp,rfl,_,_⟩ ho;simp only[ex,gY (show [zn,zp,Value.int .i64 10][2]?=aw (Value.int .i64 10) from rfl),gY (show [zn,zp,Value.int .i64 10][1]?=aw zp from rfl),gY (show [zn,zp,Value.int .i64 10][0]?=aw zn from rfl)];have ho:OwnS M.A w w20 [obE b12 Ff.smpX xk xc,pmE b5 Ff.dO,obE b1 Ff.smp1 (.slice (aw ⟨b19,0,av⟩) 1 1) (.slice (aw ⟨b24,0,av⟩) 1 1),.mem N10]:=ho;have hn10:=(((((hn.le l5).le l6).le l7).le l8).le l9).le l10;have hp10:=(((((hp.le l5).le l6).le l7).le l8).le l9).le l10;have hle10:=(hle8.trans l9).trans l10;obtain⟨pa,pc,rfl,_⟩:=hp10.form;obtain⟨q0,hia0,hld0⟩:=pmAt hp10 (i:=0) dc;obtain⟨q1,hia1,hld1⟩:=pmAt hp10 (i:=1) dc;obtain⟨ka,kc,rfl,_⟩:=hxa.keys.form;have ho:=ho.drew;refine⟨λW=>(obE b12 Ff.smpX (.slice ka 1 kc) xc).is W∧(pmE b5 Ff.dO).is W∧N10.has W,⟨ho.at_ 0 rfl,ho.at_ 1 rfl,ho.hasM 3 rfl⟩,?_⟩;have hS:∀{W:ak},OwnS M.A w W [obE b12 Ff.smpX (.slice ka 1 kc) xc,pmE b5 Ff.dO,obE b1 Ff.smp1 (.slice (aw ⟨b19,0,av⟩) 1 1) (.slice (aw ⟨b24,0,av⟩) 1 1),.mem N10]->(obE b12 Ff.smpX (.slice ka 1 kc) xc).is W∧(pmE b5 Ff.dO).is W∧N10.has W:=λho=>⟨ho.at_ 0 rfl,ho.at_ 1 rfl,ho.hasM 3 rfl⟩;refine c_eq (Ln [65,56,53] _) ?_;rw[show ai (Ff.full [65,56,53]≠[])=au by decide];refine⟨hS ho,?_⟩;simp only[rs];refine c_eq (Ln [76,90,87] _) ?_;rw[show ai (Ff.full [76,90,87]≠[])=aq by decide];refine⟨hS ho,?_⟩;simp only[gq];refine aL (.bool au) (λ_=>bK (by simp[Op.unary])) ?_;refine aL (.bool au) (λ_=>CS) ?_;simp only[gq];refine aL (.bool au) (λ_=>Qh) (aL (.bool au) (λ_=>CS) ?_)
 try simp only[gq,rs]
 refine bD (λb=>.slice (aw ⟨b,0,av⟩) 2 2) (cD [Ff.nHx,Ff.nFl]) 9 (λ_=>by kernel_rfl) ho λb76 w21 ho=>?_;have ho:OwnS M.A w w21 ([.cells b76 (cD [Ff.nHx,Ff.nFl]) 9]++[obE b12 Ff.smpX (.slice ka 1 kc) xc,pmE b5 Ff.dO,obE b1 Ff.smp1 (.slice (aw ⟨b19,0,av⟩) 1 1) (.slice (aw ⟨b24,0,av⟩) 1 1),.mem N10]):=ho;refine⟨hS ho.tail,?_⟩
 try simp only[gq,rs]
 refine aH ho (TU vn _ [Ff.nHx,Ff.nFl] [Ff.nHx,Ff.nFl] w21 (hn10.now (ho.hasM 4 rfl)) (ho.sl 0 rfl 1 2 2 rfl) dc) ?_;rintro _ w22 rfl ho;refine⟨hS ho.tail,?_⟩;rw[anZ (show [Ff.nHx,Ff.nFl]=[Ff.nHx,Ff.nFl] from rfl)];refine aL (.bool au) (λ_=>CS) ?_;simp only[gq];refine aL (.int .i64 2) (λ_=>by kernel_rfl) (aL (.bool au) (λ_=>aiH) (aL (.bool au) (λ_=>CS) ?_));simp only[gq];refine aL _ hia0 (sL (pmV Ff.dO) (λW h=>hld0 W h.2.2) (sL (pmV Ff.dO) (λW h=>bE (AtV.agg HR (cs:=pmC Ff.dO) rfl λj u hj=>by rw[aoN];exact aI (T:=27) h.2.1 hj)) (aL (.bool au) (λ_=>WR) (aL (.bool au) (λ_=>CS) ?_))));simp only[gq];refine aL _ hia1 (sL (pmV Ff.dO) (λW h=>hld1 W h.2.2) (sL (pmV Ff.dO) (λW h=>bE (AtV.agg HR (cs:=pmC Ff.dO) rfl λj u hj=>by rw[aoN];exact aI (T:=27) h.2.1 hj)) (aL (.bool au) (λ_=>WR) (aL (.bool au) (λ_=>CS) ?_))));simp only[gq];refine aL (.bool au) (λ_=>VO (a:=[52,65,62])) (aL (.bool au) (λ_=>CS) ?_);simp only[gq];refine aL (.bool au) (λ_=>Qh) (aL (.bool au) (λ_=>CS) ?_);simp only[gq];refine aL (.bool au) (λ_=>VO (a:=[74])) (aL (.bool au) (λ_=>CS) ?_);simp only[gq];refine aL (.bool au) (λ_=>Qh) (aL (.bool au) (λ_=>CS) ?_);simp only[gq];refine aL (.bool au) (λ_=>Qh) (aL (.bool au) (λ_=>CS) ?_);simp only[gq];refine aL (.bool au) (λ_=>Qh) (aL (.bool au) (λ_=>CS) ?_);simp only[gq];refine aL _ (λ_=>bH aiK) (sL (.slice ka 1 kc) (λW h=>aB Qf (aI (T:=25) h.1 (i:=4) rfl)) (aL (.int .i64 1) (λ_=>by kernel_rfl) (aL (.bool au) (λ_=>aiH) (aL (.bool au) (λ_=>CS) ?_))));simp only[gq];refine aL (.bool au) (λ_=>VO (a:=[74])) (aL (.bool au) (λ_=>CS) ?_);simp only[gq];refine aL (.bool au) (λ_=>Qh) (aL (.bool au) (λ_=>CS) ?_);simp only[gq];refine aL (.bool au) (λ_=>Qh) (aL (.bool au) (λ_=>CS) ?_);exact hK _ _ N10 _ 4 ho rfl hle10 rfl
end
end Go.Proofs.YtlipjfcbjemicaaGreatDoor

namespace Go.Proofs.YtlipjfcbjemicaaGreatDoor
variable{K:VWP}{M:Eng.Mem}{PK:PKT}{W w:ak}{a:Int}{b i sz:Nat}{cs:List ao}{os:List Ob}{v:ao}{xo yo:Operand}
section
open Eng Go.RowKit Go.ChangeShapes Go.WideShapes Go.ChangeAt
set_option maxRecDepth 100000
theorem ZF {α:Type}:∀{l:List α},l.length=2->∃a b,l=[a,b]
|[a,b],_=>⟨a,b,rfl⟩
theorem mapM_mem {α β:Type}{f:α->Option β}:∀{l:List α} {r:List β},l.mapM f=aw r->(∀a∈l,∃b∈r,f a=aw b)∧∀b∈r,∃a∈l,f a=aw b
|[],r,h=>by
  simp only[List.mapM_nil,Option.pure_def,arV] at h;subst h;exact⟨(λa ha=>by cases ha),(λb hb=>by cases hb)⟩
|x::l,r,h=>by
  simp only[List.mapM_cons,Option.bind_eq_bind,auE,Option.pure_def,arV] at h;obtain⟨b,hb,r',hr',rfl⟩:=h;obtain⟨i1,i2⟩:=mapM_mem hr';refine⟨λa ha=>?_,λc hc=>?_⟩
  ·rcases aoM.1 ha with rfl|ha
   ·exact⟨b,apU,hb⟩
   ·obtain⟨c,hc,he⟩:=i1 a ha;exact⟨c,apA _ hc,he⟩
  ·rcases aoM.1 hc with rfl|hc
   ·exact⟨x,apU,hb⟩
   ·obtain⟨a,ha,he⟩:=i2 c hc;exact⟨a,apA _ ha,he⟩
theorem Uq {H:Type}(x y:Lit×DataW H):∀l:List (Lit×DataW H),y∈DataW.insert x l↔y=x∨y∈l
|[]=>by simp[DataW.insert]
|z::r=>by
  unfold DataW.insert;split
  ·simp
  ·rw[aoM,Uq x y r,aoM];constructor
   ·rintro (h|h|h)
    ·exact .inr (.inl h)
    ·exact .inl h
    ·exact .inr (.inr h)
   ·rintro (h|h|h)
    ·exact .inr (.inl h)
    ·exact .inl h
    ·exact .inr (.inr h)
theorem Lz {H:Type}(y:Lit×DataW H):∀l:List (Lit×DataW H),y∈l.foldr DataW.insert []↔y∈l
|[]=>by simp
|x::r=>by rw[List.foldr_cons,Uq,Lz y r,aoM]
section
variable {H:Type}{enc:TypeId×ao->H}{W:ak}{sp:Nat->Bool}{held:Bool}
theorem RN (fuel:Nat)(cs:List ao)(x:DataW H×List MemPlace)(h:DataW.trod enc ah W 0 sp held fuel 363 cs=aw x):∃a b:Int,cs=[.int .i64 a,.int .i64 b]∧x.1=.agg [.lit (.int .i64 a),.lit (.int .i64 b)]:=by
 obtain⟨xs,n,rfl,hdd,hl,hxl,hf⟩:=DataW.trod_struct underlying363 h;have c2:Tryz.prog.cellsOf 363=2:=krx
 rw[c2] at hl;have hxl:xs.length=2:=hxl;obtain⟨x0,x1,rfl⟩:=ZF hxl;obtain⟨v0,v1,rfl⟩:=ZF hl;have e0:=hf 0 _ rfl;have e1:=hf 1 _ rfl;have k0:Tryz.prog.cellsOf 3=1:=krx
 simp only[k0,aqH,avD,avH,arP,atF,apW] at e0 e1;obtain⟨a,ha,rfl,_⟩:=DataW.trod_int apH e0;obtain⟨b,hb,rfl,_⟩:=DataW.trod_int apH e1
 injection ha with ha _
 injection hb with hb _
 subst ha;subst hb;exact⟨a,b,rfl,by rw[hdd];rfl⟩
end
section
variable {H:Type}{enc:TypeId×ao->H}{P:Program}{W:ak}{sp:Nat->Bool}{held:Bool}
theorem UH {t k e:TypeId}(ht:P.underlying t=aw (.map k e)){fuel:Nat}{L:List (Lit×DataW H)}{p:List MemPlace}(h:DataW.trod enc P W 0 sp held fuel t cs=aw (.map L,p)) :
  ∃b es clock n entries,cs=[.map (aw b)]∧W.heap[b]?=aw (.map es clock) ∧
   (es.toList.mapM λx=>(keyOf P k x.key).bind λkey=>if x.val.formed P e then (DataW.trod enc P W 0 sp held n e x.val.cells.toList).map λy=>((key,y.1),y.2) else av)=aw entries ∧
   (entries.map (·.1)).foldr DataW.insert []=L:=by
 cases fuel with
|zero=>simp[DataW.trod] at h
|succ n=>
  unfold DataW.trod at h;rw[ht] at h;rcases cs with _|⟨c,_|⟨d,r⟩⟩
  ·simp at h
  ·cases c with
  |map a=>
    cases a with
   |none=>simp at h
   |some b=>
     dsimp only at h;cases hb:W.heap[b]? with
    |none=>rw[hb] at h;simp at h
    |some o=>
      rw[hb] at h;cases o with
     |map es clock=>
       dsimp only at h;split at h
       ·obtain⟨entries,h1,h2⟩:=auE.1 h;refine⟨b,es,clock,n,entries,rfl,hb,h1,?_⟩
        try dsimp only at h2
        split at h2
        ·injection h2 with h2
         injection h2 with h2 _
         injection h2 with h2
        ·cases h2
       ·cases h
     |_=>simp at h
  |_=>simp at h
  ·simp at h
end
def rpD {H:Type}:List (Lit×DataW H):=[(.int .i64 16,.agg [.lit (.int .i64 3),.lit (.int .i64 2)]),(.int .i64 17,.agg [.lit (.int .i64 3),.lit (.int .i64 3)]),(.int .i64 18,.agg [.lit (.int .i64 11),.lit (.int .i64 7)])]
def repK (x:MapEntry):Int×Value:=(match x.key with|.int _ n=>n|_=>0,x.val)
theorem Un {kl:Lit}(h:keyOf ah 3 v=aw kl):∃n:Int,v=.int .i64 n∧kl=.int .i64 n:=by
 unfold keyOf at h;rw[apH] at h;dsimp only at h;unfold mapKey at h;rw[apH] at h;cases v with
|int q n=>
  dsimp only at h;split at h
  ·rename_i hc
   obtain⟨rfl,_⟩:=hc
   injection h with h
   exact⟨n,rfl,h.symm⟩
  ·cases h
|_=>simp at h
theorem X9 (al:List (Int×ao))(h1:∀p∈al,p∈rpM)(h2:∀p∈rpM,p∈al)(k:Int):yF al k=yF rpM k:=by
 unfold yF;cases hf:al.find? (λp=>ai (p.1=k)) with
|none=>
  have hn:=List.find?_eq_none.1 hf;have:rpM.find? (λp=>ai (p.1=k))=none:=List.find?_eq_none.2 λp hp=>hn p (h2 p hp);rw[this]
|some p=>
  have hm:=h1 p (List.mem_of_find?_eq_some hf);have hk:p.1=k:=by simpa using List.find?_some hf
  simp only[rpM,aoM,aqI,or_false] at hm;rcases hm with rfl|rfl|rfl<;>(dsimp only at hk;subst hk;rfl)
theorem adS {rest:List (String×DataW Unit)}(h:laidMet ah (("foliant/inflate.repeats",.map rpD)::rest) W):Rp (Mem.all W):=by
 obtain⟨ps,⟨g',t',cs,fuel,p,q,hg',ht',hvar,hd,_,_⟩,_⟩:=h;obtain rfl:=arH ((show Tryz.prog.globalNamed "foliant/inflate.repeats"=aw 3 by kernel_rfl).symm.trans hg')
 obtain rfl:=arH ((show (Tryz.prog.globals[3]?).map (·.type)=aw 365 by kernel_rfl).symm.trans ht');obtain⟨b,es,clock,n,entries,hcs,hb,hm,hs⟩:=UH mpRp hd;have hcell:=World.var?_cell (show Tryz.prog.globalNamed "foliant/inflate.repeats"=aw 3 by kernel_rfl) hvar 0
 have hc0:cs[0]?=aw (.map (aw b)):=by
  rw[<-Array.getElem?_toList,hcs];rfl
 rw[hc0] at hcell;have hgb:3 < W.heap.size:=by
  have:=hcell;unfold World.cell? at this;cases hh:W.heap[3]? with
 |none=>simp[hh] at this
 |some o=>exact dW hh
 obtain⟨m1,m2⟩:=mapM_mem hm;have hL:∀y:Lit×DataW Unit,y∈(rpD:List (Lit×DataW Unit))↔y∈entries.map (·.1):=λy=>by rw[<-hs];exact Lz y _
 -- each entry
 have ent:∀x∈es.toList,∃k a c:Int,x.key=.int .i64 k∧x.val=.agg #[.int .i64 a,.int .i64 c]∧((Lit.int .i64 k,DataW.agg [.lit (.int .i64 a),.lit (.int .i64 c)]):Lit×DataW Unit)∈rpD:=by
  intro x hx;obtain⟨en,hen,hf⟩:=m1 x hx;obtain⟨kl,hk,hf⟩:=auE.1 hf;obtain⟨k,hk1,rfl⟩:=Un hk;split at hf
  ·rename_i hfm
   obtain⟨y,hy,rfl⟩:=aqN.1 hf;obtain⟨a,c,hcs2,hy1⟩:=RN _ _ _ hy;refine⟨k,a,c,hk1,?_,?_⟩
   ·cases hv:x.val with
   |agg vs=>
     rw[hv] at hcs2;have:vs.toList=[.int .i64 a,.int .i64 c]:=hcs2;rw[show vs=vs.toList.toArray by simp,this]
   |_=>rw[hv] at hfm;exact absurd hfm (by unfold Value.formed;rw[underlying363];simp)
   ·rw[hL,<-hy1];exact apN.2 ⟨_,hen,rfl⟩
  ·cases hf
 have inR:∀{k a c:Int},((Lit.int .i64 k,DataW.agg [.lit (.int .i64 a),.lit (.int .i64 c)]):Lit×DataW Unit)∈rpD->(k,Value.agg #[.int .i64 a,.int .i64 c])∈rpM:=by
  intro k a c h;simp only[rpD,aoM,aqI,or_false,asA] at h;rcases h with ⟨h1,h2⟩|⟨h1,h2⟩|⟨h1,h2⟩<;>(injection h1 with _ h1;injection h2 with h2;simp only[atJ,and_true] at h2;obtain⟨h3,h4⟩:=h2;injection h3 with h3;injection h4 with h4;injection h3 with _ h3;injection h4 with _ h4;subst h1;subst h3;subst h4;simp[rpM])
 refine⟨b,hgb,hcell,dW hb,es.toList.map repK,X9 _ ?_ ?_,es,clock,hb,?_⟩
 ·intro p hp;obtain⟨x,hx,rfl⟩:=apN.1 hp;obtain⟨k,a,c,e1,e2,e3⟩:=ent x hx;have:repK x=(k,.agg #[.int .i64 a,.int .i64 c]):=by unfold repK;rw[e1,e2]
  rw[this];exact inR e3
 ·intro p hp;have key:∀{k a c:Int},((Lit.int .i64 k,DataW.agg [.lit (.int .i64 a),.lit (.int .i64 c)]):Lit×DataW Unit)∈rpD->(k,Value.agg #[.int .i64 a,.int .i64 c])∈es.toList.map repK:=by
   intro k a c h;obtain⟨en,hen,he⟩:=apN.1 ((hL _).1 h);obtain⟨x,hx,hf⟩:=m2 en hen;obtain⟨k',a',c',e1,e2,_⟩:=ent x hx;obtain⟨kl,hk,hf⟩:=auE.1 hf;obtain⟨k2,hk1,rfl⟩:=Un hk;split at hf
   ·obtain⟨y,hy,rfl⟩:=aqN.1 hf;obtain⟨a2,c2,hcs2,hy1⟩:=RN _ _ _ hy;rw[e2] at hcs2;have hcs2:[Value.int .i64 a',Value.int .i64 c']=[.int .i64 a2,.int .i64 c2]:=hcs2;simp only[atJ,and_true] at hcs2;obtain⟨q1,q2⟩:=hcs2
    injection q1 with _ q1
    injection q2 with _ q2
    rw[e1] at hk1
    injection hk1 with _ hk1
    dsimp only at he;rw[hy1] at he
    injection he with he1 he2
    injection he1 with _ he1
    injection he2 with he2
    simp only[atJ,and_true] at he2;obtain⟨w1,w2⟩:=he2
    injection w1 with w1
    injection w2 with w2
    injection w1 with _ w1
    injection w2 with _ w2
    refine apN.2 ⟨x,hx,?_⟩;unfold repK;rw[e1,e2];subst q1;subst q2;subst hk1;subst he1;subst w1;subst w2;rfl
   ·cases hf
  simp only[rpM,aoM,aqI,or_false] at hp;rcases hp with rfl|rfl|rfl
  ·exact key (by simp[rpD])
  ·exact key (by simp[rpD])
  ·exact key (by simp[rpD])
 ·rw[auP];refine auA λx hx=>?_;obtain⟨k,a,c,e1,e2,e3⟩:=ent x hx;show (x.key,x.val)=(intK (repK x).1,(repK x).2);unfold repK;rw[e1];rfl
end
section
open Eng Go.RowKit
def adB (w:ak)(g:Nat):World:=
 { w with heap:=(w.heap.modify g λ
  |.cells _ t frozen=>.cells #[.map (aw w.heap.size)] t frozen
  |o=>o).push (.map #[⟨.int .i64 16,.agg #[.int .i64 3,.int .i64 2],0⟩,⟨.int .i64 17,.agg #[.int .i64 3,.int .i64 3],1⟩,⟨.int .i64 18,.agg #[.int .i64 11,.int .i64 7],2⟩] 3) }
end
section
open Eng Go.RowKit Go.ChangeShapes Go.WideShapes Go.ChangeAt
set_option maxRecDepth 100000
theorem aaB {α:Type}:∀{l:List α},l.length=3->∃a b c,l=[a,b,c]
|[a,b,c],_=>⟨a,b,c,rfl⟩
section
variable {H:Type}{enc:TypeId×ao->H}{W:ak}{sp:Nat->Bool}{held:Bool}
theorem Xb {b0:Nat}{d:DataW H}{ps:List MemPlace}(hval:Value.okWide ah W .any b0 27 v)(hd:DataW.Trod enc ah W 0 sp held 27 v d ps):∃x:Pm,v=pmV x:=by
 obtain⟨cs,rfl,_⟩:=okWide_struct underlying27 hval;obtain⟨fuel,h⟩:=hd;have h:DataW.trod enc ah W 0 sp held fuel 27 cs.toList=aw (d,ps):=h;obtain⟨xs,n,rfl,hdd,hl,hxl,hf⟩:=DataW.trod_struct underlying27 h;have c3:Tryz.prog.cellsOf 27=3:=krx
 rw[c3] at hl;have hxl:xs.length=3:=hxl;obtain⟨x0,x1,x2,rfl⟩:=aaB hxl;obtain⟨v0,v1,v2,hcs⟩:=aaB hl;rw[hcs] at hf;have e0:=hf 0 _ rfl;have e1:=hf 1 _ rfl;have e2:=hf 2 _ rfl;have k0:Tryz.prog.cellsOf 3=1:=krx
 simp only[k0,aqH,avD,avH,arP,atF,apW] at e0 e1 e2;obtain⟨a,ha,_,_⟩:=DataW.trod_int apH e0;obtain⟨b,hb,_,_⟩:=DataW.trod_int apH e1;obtain⟨c,hc,_,_⟩:=DataW.trod_int apH e2
 injection ha with ha _
 injection hb with hb _
 injection hc with hc _
 subst ha;subst hb;subst hc;refine⟨⟨a,b,c⟩,?_⟩;have:cs=cs.toList.toArray:=sm
 rw[this,hcs];rfl
end
theorem VE {g:Nat}(h:W.cell? ⟨g,i,av⟩=aw v):g < W.heap.size:=by
 unfold World.cell? at h;cases hh:W.heap[g]? with
|none=>simp[hh] at h
|some o=>exact dW hh
theorem adC (h:Lib.TabIs ah W "foliant/inflate.order" .i64 [16,17,18,0,8,7,9,6,10,5,11,4,12,3,13,2,14,1,15]):Od (Mem.all W):=by
 refine⟨VE (Lib.TabIs.cell (g:=2) h krx 0 dc),λi hi=>?_⟩;have:=Lib.TabIs.cell (g:=2) h krx i hi;rw[show (Mem.all W).w=W from rfl,this];rcases lt19 hi with rfl|rfl|rfl|rfl|rfl|rfl|rfl|rfl|rfl|rfl|rfl|rfl|rfl|rfl|rfl|rfl|rfl|rfl|rfl<;>rfl
theorem Yd (h:Lib.TabIs ah W "foliant/ascii.powers" .u64 [52200625,614125,7225,85,1]):Pws (Mem.all W):=by
 refine⟨VE (Lib.TabIs.cell (g:=0) h krx 0 dc),λi hi=>?_⟩;have:=Lib.TabIs.cell (g:=0) h krx i hi;rw[show (Mem.all W).w=W from rfl,this];rcases lt5 hi with rfl|rfl|rfl|rfl|rfl<;>rfl
end
section
open Eng Go.RowKit
theorem Me (n:List UInt8)(x:Pm)(data:List UInt8)(M:Mem)(w:ak)(hrp:Rp M)(hod:Od M)(hpw:Pws M)(hM:M.has w) :
  RetM ah 4 #[.string ⟨n.toArray⟩,pmV x,.string ⟨data.toArray⟩] M w (λr _=>r=.bool au):=by
 refine aU hM λK hK=>qQ ?_;unfold jM nz;refine yE x (OwnS.memS hM) λb4 w1 ho=>?_;have lives:∀{W:ak} {N2:Mem} {PK:PKT} {KK:VWP},M.le N2->OwnS M.A w W [pmE b4 x,.mem N2]->(∀N3 W,M.le N3->OwnS M.A w W [pmE b4 x,.mem N3]->KK (.bool au) W)->CallX ah 12 #[] W PK KK:=by
  intro W N2 PK KK l2 ho k;refine bI ho 1 rfl (PM N2 W (hrp.le l2) (hod.le l2) (hpw.le l2) (ho.hasM 1 rfl)) ?_;rintro _ N3 W3 l3 rfl ho;exact k N3 W3 (l2.trans l3) ho
 rw[cL aoD];simp only[rs];by_cases h6:600 < data.length
 ·simp only[show ai ((600:Int) < (data.length:Int))=au from anZ om,i_t];exact lives M.le_refl ho λN3 W l3 ho=>hK _ _ N3 _ 1 ho rfl l3 rfl
 simp only[show ai ((600:Int) < (data.length:Int))=aq from anY om,i_f];rw[pm_v ho 0 rfl];refine bI ho 1 rfl (Yt n x data M w1 hpw (ho.hasM 1 rfl) om) ?_;rintro _ N w2 l1 ⟨t,e,rfl,hR⟩ ho;have ho:OwnS M.A w w2 [pmE b4 x,.mem N]:=ho;have hback:=aaz (s:=data) hR;have htl:t.length<=3200000:=by
  unfold Ff.OneR at hR;split at hR
  ·rw[hR.1];simp
  ·split at hR
   ·split at hR
    ·rename_i hw
     have h1:=(rq hw).2;have h2:=hR.2.2;omega
    ·rw[hR.1];simp
   ·rw[hR.1];have:=aay (n:=n) (s:=data);omega
 unfold Ff.OneR at hR;simp only[zlT,ex];refine c_eq (Pa n w2) ?_;rw[Oj];by_cases h0:Ff.full n=[]
 ·rw[anX h0] at hR;obtain⟨rfl,rfl⟩:=hR;simp only[anY (show ¬Ff.full n≠[] fromλh=>h h0),aqD,i_t];rw[show (Value.string ⟨#[]⟩)=.string ⟨([]:List UInt8).toArray⟩ from rfl];simp only[rs,aoA,gd];refine lives l1 ho λN6 W l6 ho=>?_
  try simp only[rs]
  exact hK _ _ N6 _ 1 ho rfl l6 rfl
 rw[anW h0] at hR;simp only[anZ (show Ff.full n≠[] from h0),aqF,i_f];refine c_eq (yM n w2) ?_;rw[show (Value.string ⟨#[70,108,97,116,101,68,101,99,111,100,101]⟩)=.string ⟨Ff.nFl.toArray⟩ from rfl,Pv];by_cases h4:Ff.full n=Ff.nFl
 case neg=>
  rw[anW h4] at hR;obtain⟨rfl,rfl⟩:=hR;simp only[anZ (show Ff.full n≠Ff.nFl from h4),i_t];rw[pm_v ho 0 rfl];refine bI ho 1 rfl (NG n x _ N w2 (hrp.le l1) (hod.le l1) (hpw.le l1) om (ho.hasM 1 rfl)) ?_;rintro _ N2 w3 l2 ⟨rfl,_⟩ ho;rw[hback rfl om];simp only[zlT,ex,rs,aoA,gd];refine aH ho (Pd n data w3 om) ?_;rintro _ w4 rfl ho;simp only[rs,aoA,gd];refine lives (l1.trans l2) ho λN6 W l6 ho=>?_
  try simp only[rs]
  exact hK _ _ N6 _ 1 ho rfl l6 rfl
 rw[anX h4] at hR;simp only[anY (show ¬Ff.full n≠Ff.nFl fromλh=>h h4),i_f];rw[pm_v ho 0 rfl];refine aH ho (Nr x data w2 om) ?_;rintro _ w3 ⟨t2,rfl,_⟩ ho;simp only[encT,ex];by_cases hw:dd x data=0
 case neg=>
  rw[anW hw] at hR;obtain⟨rfl,rfl⟩:=hR;rw[bQ];simp only[anZ (show dd x data≠0 from hw),gd,rs,i_t,aoA];refine lives l1 ho λN6 W l6 ho=>?_
  try simp only[rs]
  exact hK _ _ N6 _ 1 ho rfl l6 rfl
 rw[anX hw] at hR;obtain⟨rfl,_,_⟩:=hR;rw[bQ,hw];simp only[show ai ((0:Int)≠0)=aq from rfl,gd,rs,i_f];rw[pm_v ho 0 rfl];refine bI ho 1 rfl (NG n x t N w3 (hrp.le l1) (hod.le l1) (hpw.le l1) om (ho.hasM 1 rfl)) ?_;rintro _ N2 w4 l2 ⟨rfl,_⟩ ho;rw[hback rfl om];simp only[zlT,ex];rw[pm_v ho 0 rfl];refine bI ho 1 rfl (P6 n x t N2 w4 om (ho.hasM 1 rfl)) ?_;rintro _ N3 w5 l3 ⟨rfl,_⟩ ho;rw[hback rfl om];simp only[zlT,ex,rs,aoA,gd];refine lives ((l1.trans l2).trans l3) ho λN6 W l6 ho=>?_
 try simp only[rs]
 exact hK _ _ N6 _ 1 ho rfl l6 rfl
end
section
open Eng Go.RowKit
theorem filterOne_row (n:List UInt8)(x:Pm)(data:List UInt8)(w:ak)(hrp:Rp (Mem.all w))(hod:Od (Mem.all w))(hpw:Pws (Mem.all w)) :
  Ret ah 4 #[.string ⟨n.toArray⟩,pmV x,.string ⟨data.toArray⟩] w (λv w'=>v=.bool au∧Below w.heap.size w w'):=
 RetM.told (Me n x data (Mem.all w) w hrp hod hpw (Mem.aaR w))
end
end Go.Proofs.YtlipjfcbjemicaaGreatDoor
