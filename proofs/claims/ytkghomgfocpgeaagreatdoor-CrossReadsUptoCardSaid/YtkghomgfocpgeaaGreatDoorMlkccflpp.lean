/- Parts of the proof. -/
import Derived.Test.YtkghomgfocpgeaaGreatDoorRows
import Derived.Test.YtkghomgfocpgeaaGreatDoorMpfldklcg
set_option linter.all false
set_option maxRecDepth 20000
open Go.Proofs.Tryz
open Go.Proofs.Tryz renaming prog->ah
open Option renaming some->ax,none->aw
open Bool renaming true->av,false->au
open Go renaming Value->aq,World->ao
open Decidable renaming decide->ai
namespace Go.Proofs.YtkghomgfocpgeaaGreatDoor
variable{A S:Nat->Prop}{C:ao->Prop}{K:VWP}{M N:Eng.Mem}{P:Program}{PK PK2:PKT}{R:List Eng.Ent}{T1 U:TypeId}{W w w0:ao}{a colors way:Int}{above:List UInt8}{args ca fa:Array aq}{b cap d f fb i j jm m tb:Nat}{cb:Array Bool}{cs:List aq}{k':IntKind}{l near:List Nat}{pv v va:aq}{xo yo:Operand}{α:Type}{t0 t1 t2 t3:aq}{k0:Eng.KT}
section
open Eng Go.RowKit
namespace Ff
def names (o:Ob):List (List UInt8)×Int:=
 if (Hu o).any (λx=>ai (x.k≠5))=av then ([],10)
 else if 8 < (Hu o).length then ([],6)
 else if (Hu o).any (λx=>ai (full x.s=[]))=av then ([],15)
 else ((Hu o).map (λx=>full x.s),0)
def of (o:Ob):List (List UInt8)×List Pm×Int:=
 if o.k≠9 then ([],[],10)
 else if (names o).2≠0 then ([],[],(names o).2)
 else if (zO o (names o).1.length).2≠0 then ([],[],(zO o (names o).1.length).2)
 else if (zO o (names o).1.length).1.any (λx=>!decide x.ok)=av then ([],[],1)
 else ((names o).1,(zO o (names o).1.length).1,0)
theorem L9 {o:Ob}{n:Nat}(h:(zO o n).2=0):(zO o n).1.length=n:=by
 unfold zO at h ⊢;by_cases a:(wK o).2≠0
 ·rw[auP a] at h;cases h
 rw[auO a] at h ⊢;by_cases b:(wK o).1.any (λx=>ai ((BY x).2≠0))=av
 ·rw[auP b] at h;cases h
 rw[auO b] at h ⊢;by_cases c:n < (wK o).1.length
 ·rw[auP c] at h;cases h
 rw[auO c] at h ⊢;by_cases d:(wK o).1.any (λx=>!eight x)=av
 ·rw[auP d] at h;cases h
 rw[auO d];simp only[auU,avS,awJ];omega
theorem Rf {o:Ob}:(names o).1.length<=8:=by
 unfold names
 repeat' split
 all_goals first|exact avK _|(simp only[avS];omega)
end Ff
theorem La:cD ah 73=true:=krx
theorem Z4:dP ah 75=true:=krx
theorem alY:uM ah 110 0=ax 0:=krx
theorem arZ:(Tryz.prog.info? 110).map (·.size)=ax 1:=krx
abbrev ofC (a b2 b3 b:Nat)(o:Ob)(vk vc vn vp:aq)(e:Int):List Ent:=[.cells b [ad e] 35,.cells b3 [vp] 75,.cells b2 [vn] 22,obE a o vk vc]
theorem Z1 (o:Ob)(v:aq)(M:Mem)(w:ao)(hw:o.wt<=1000000000)(hM:M.has w)(hv:OV M.A M.w v o) :
  lA ah 43 #[v] M w (λr N=>∃vn vp,r=.tuple #[vn,vp,ad (Ff.of o).2.2]∧SlA N.A N.w vn 1 (Ff.of o).1.length (bT (Ff.of o).1)∧SlA N.A N.w vp 3 (Ff.of o).2.1.length ((Ff.of o).2.1.flatMap pmC)):=by
 obtain⟨vk,vc,b9,rfl,ha⟩:=hv.open;refine aO hM λK hK=>Nd ?_;generalize f:Ff.of o=X at hK;unfold Ff.of at f;unfold LS iN dx alx;refine dD o ha.keys.one ha.kids.one (dQ.memS hM) λz w1 c=>?_;refine bB (λb=>af b 0) [dY] 22 (λ_=>by kernel_rfl) c λb2 w2 c=>?_;refine bB (λb=>af b 0) [dY] 75 (λ_=>by kernel_rfl) c λb3 w3 c=>?_;refine bB (λb=>af b 0) [ad 0] 35 (λ_=>by kernel_rfl) c λg w4 c=>?_;have c:dQ M.A w w4 (ofC z b2 b3 g o vk vc dY dY 0++([.mem M]++[])):=c;have c:=c.front;have c:dQ M.A w w4 (.mem M::ofC z b2 b3 g o vk vc dY dY 0):=c;rw[tM];refine⟨_,rfl,?_⟩
 -- c0 end with an error
 have q:∀{W:ao} {N:Mem} {e:Int} {R:List Ent},dQ M.A w W (.mem N::(ofC z b2 b3 g o vk vc dY dY e++R))->M.le N->X=([],[],e) ->
   zu ah [.cell (af b2 0) 22,.cell (af b3 0) 75,.cell (af g 0) 35] W K:=by
  intro W N e R c hle d;refine TZ (bG (AtV.cell VE (c.cell 3 rfl 0 rfl))) (bG (AtV.cell Z4 (c.cell 2 rfl 0 rfl))) (bG (AtV.cell GW (c.cell 1 rfl 0 rfl))) (hK _ _ N _ 0 c rfl hle ⟨dY,dY,by rw[d],by rw[d];exact SlA.nil _ _ _ _,by rw[d];exact SlA.nil _ _ _ _⟩)
 have fail:∀{W:ao} {N:Mem} {e:Int} {vn vp:aq},dQ M.A w W (.mem N::ofC z b2 b3 g o vk vc vn vp 0)->M.le N->X=([],[],e) ->
   aD { target:=.fn (.func 73) #[af b2 0,af b3 0,af g 0],args:=#[]++#[] } (af b2 0) (af b3 0) (af g 0) K [upF e] W:=by
  intro W N e vn vp c hle d;show pd ah _ K _ [upF e] W;unfold pd;refine kG sm La (jC (t0:=af b2 0) (t1:=af b3 0) (t2:=af g 0) ?_);simp only[gB,zw,Al,upF,Eng.afE ayD,rs,ZG alM,ex,i_t,i_f,dx,exx,stx,eqx,alx];refine bB (λb=>af b 0) [ad 0] 110 (λ_=>by kernel_rfl) c λb7 w5 c=>?_;refine gF 0 c rfl (new:=[ad e]) arZ (λu hu=>by rw[avV.1 hu];rfl) rfl λT c=>?_;have c:dQ M.A w T (.cells b7 [ad e] 110::.mem N::ofC z b2 b3 g o vk vc vn vp 0):=c;refine join λJ hJ=>?_
  try simp only[avY,i_f]
  refine hJ _ _ λ_=>?_;unfold yM ldx fax stx;refine⟨?_⟩;have c:=c.drew
  repeat' first
  |apply And.intro
  |refine aC (bE alY) |>.mpr ?_
  |refine aC (aB GW (c.cell 0 rfl 0 rfl)) |>.mpr ?_
  |refine aK 4 c rfl krx rfl sm (λ_ c=>?_)
  |refine aK 3 c rfl krx rfl sm (λ_ c=>?_)
  |refine aK 2 c rfl krx rfl sm (λ_ c=>?_)
  all_goals
   unfold dB;exact q (R:=[]) c.tail hle d
 rw[cO,zn c 4 rfl];simp only[rs];refine rD (λV=>?_) (λV=>?_)
 rotate_left
 ·rw[auP (avU V)] at f;exact fail c M.le_refl f.symm
 have V:=avG V;rw[auO (λh=>h V)] at f;rw[oV c 4 rfl];have c1:=Ff.Pz hw;have c2:Ff.names o=Ff.names o:=rfl;generalize n:Ff.names o=Nn at f;unfold Ff.names at n;refine Yz c hw hv (λh5 vl N w5 D E c=>?_) (λh5 N w5 D c=>?_)
 rotate_left
 ·have:(Ff.Hu o).any (λx=>ai (x.k≠5))=true:=by
   refine awV.2 (aBm λhc=>h5 λx d=>aBm λh=>hc ⟨x,d,auR h⟩)
  rw[auP this] at n;rw[<-n,auP dc] at f;exact fail c D f.symm
 rw[auO (λh=>by
  obtain⟨x,d,h⟩:=awV.1 h;exact (avG h) (h5 x d))] at n
 have hlen:∀{W:ao} {PK:PKT} {K:VWP},DoX ah (mB .len #[22] 3 #[au] #[vl]) W PK K=K (ad (((Ff.Hu o).map Ob.s).length:Int)) W:=λ{_ _ _}=>by
  obtain⟨a,cap,rfl,_⟩:=E.form;exact bP avH
 rw[hlen];simp only[rs];refine rD (λC=>?_) (λC=>?_)
 rotate_left
 ·have C:=avU C;rw[avS] at C;rw[auP om] at n;rw[<-n,auP dc] at f;exact fail c D f.symm
 have C:=avG C;rw[auO (by rw[avS] at C;omega)] at n;rw[hlen];generalize Y:(Ff.Hu o).map Ob.s=l at E hlen C;have Z:∀{p:List UInt8->Bool},(Ff.Hu o).any (λx=>p x.s)=l.any p:=λ{p}=>by rw[<-Y,List.any_map];rfl
 have a1:(Ff.Hu o).map (λx=>Ff.full x.s)=l.map Ff.full:=by rw[<-Y,aAg];rfl
 rw[Z (p:=λx=>ai (Ff.full x=[])),a1] at n;have c:=dQ.nilU c 9 1;refine loop (λvs W=>∃(i:Nat) (ov:aq),vs=[ad (i:Int)]∧i<=l.length∧(∀x∈l.take i,Ff.full x≠[])∧dQ M.A w W (stsE ov ((l.take i).map Ff.full)::.mem N::ofC z b2 b3 g o vk vc ov dY 0)) (λvs _=>l.length - n0 vs) ⟨0,dY,rfl,om,sm,c⟩ ?_;clear c;rintro vs T ⟨i,ov,rfl,hi,hf,c⟩ _;simp only[Gk,gd,rs,iN];by_cases t:(i:Int) < (l.length:Int)
 ·simp only[t,auS,i_t];have j:i < l.length:=om
  obtain⟨p,F,G⟩:=PO E j;rw[aC (F T),aC (G T (c.hasM 1 rfl))];refine zq (Mn l[i] T) ?_;simp only[ex];refine rD (λh=>?_) (λh=>?_)
  rotate_left
  ·have h:=Decidable.not_not.1 (avU h);rw[auP (awV.2 ⟨_,avD j,auR h⟩)] at n;rw[<-n,auP dc] at f;exact fail c.tail D f.symm
  have h:Ff.full l[i]≠[]:=avG h;rw[aH VE (c.cell 4 rfl 0 rfl)];refine UM _ c (by rw[avS,avA];omega) λa6 W2 c=>?_;have H:a6.oneCell'=true:=kD (Sl.urow (c.at_ 0 rfl));refine aK 4 c rfl krx H sm λw7 c=>?_
  try simp only[rs]
  rw[aA om om];refine⟨rfl,?_⟩;refine aU ⟨i+1,a6,rfl,om,?_,?_⟩ (by simp[n0,RowKit.intOf];omega)
  ·rw[avP j];intro x d;rcases avZ.1 d with d|d
   ·exact hf x d
   ·rw[avV.1 d];exact h
  ·rw[avP j,avT];exact c
 simp only[t,auT,i_f];have:i=l.length:=om
 subst this;rw[awI] at hf c;rw[auO (λh=>by
  obtain⟨x,d,h⟩:=awV.1 h;exact hf x d (avG h))] at n
 subst n;dsimp only at f;rw[auO dc] at f;generalize a7:l.map Ff.full=ns at f c;have b6:ns.length=l.length:=by rw[<-a7,avS]
 have b8:∀x∈ns,x≠[]:=by
  rw[<-a7];intro x d;obtain⟨y,I,rfl⟩:=awD.1 d;exact hf y I
 rw[oV c 5 rfl];rw[hlen,<-b6];obtain⟨N2,l2,m,c⟩:=c.bH 0 rfl;have c:dQ M.A w T (.mem N2::ofC z b2 b3 g o vk vc ov dY 0):=c;have L:=@Ff.L9 o ns.length;generalize hP:Ff.zO o ns.length=P at f L;refine acQ (many:=ns.length) c hw om ((hv.le D).le l2) (λU vp N3 w7 l3 B c=>?_) (λU N3 w7 l3 c=>?_)
 rotate_left
 ·rw[hP] at U ⊢;rw[auP U] at f;exact fail c ((D.trans l2).trans l3) f.symm
 rw[hP] at U B;have L:=L U;rw[auO (λh=>h U)] at f;have a8:vp.oneCell'=true:=B.one;refine aK 2 c rfl krx a8 sm λw8 c=>?_;have c:dQ M.A w w8 (.mem N3::ofC z b2 b3 g o vk vc ov vp 0):=c;rw[aH VE (c.cell 3 rfl 0 rfl)];have hle:=(D.trans l2).trans l3;have m:=m.le l3;have O:∀{W:ao} {PK:PKT} {K:VWP},DoX ah (mB .len #[22] 3 #[au] #[ov]) W PK K=K (ad (ns.length:Int)) W:=λ{_ _ _}=>by
  obtain⟨a,cap,rfl,_⟩:=m.form;exact bP avH
 rw[O];refine loop (λvs W=>∃i:Nat,vs=[ad (i:Int)]∧i<=ns.length∧(∀x∈P.1.take i,x.ok)∧dQ M.A w W (.mem N3::ofC z b2 b3 g o vk vc ov vp 0)) (λvs _=>ns.length - n0 vs) ⟨0,rfl,om,sm,c⟩ ?_;clear c;rintro vs w9 ⟨i,rfl,hi,Q,c⟩ _;simp only[HF,gd,rs,iN,etx];by_cases t:(i:Int) < (ns.length:Int)
 ·simp only[t,auS,i_t];have j:i < ns.length:=om
  have S:i < P.1.length:=om
  obtain⟨p,F,G⟩:=PO m j;rw[aC (F w9),aC (G w9 (c.hasM 0 rfl)),aH Z4 (c.cell 2 rfl 0 rfl)];obtain⟨p2,b0,b5⟩:=pmAt B S;rw[aC (b0 w9),aC (b5 w9 (c.hasM 0 rfl))];refine aI c (Nw P.1[i] w9) ?_;rintro _ c3 rfl c;simp only[bO];by_cases d:P.1[i].ok
  ·rw[auP d];simp only[show ai ((0:Int)≠0)=au from rfl,rs,i_f];rw[aA om om];refine⟨rfl,?_⟩;refine aU ⟨i+1,rfl,om,?_,c⟩ (by simp[n0,RowKit.intOf];omega);rw[avP S];intro y I;rcases avZ.1 I with I|I
   ·exact Q y I
   ·rw[avV.1 I];exact d
  ·rw[auO d];rw[auP (awV.2 ⟨_,avD S,by simp[d]⟩)] at f;have hn:=b8 _ (avD j);simp only[show ai ((1:Int)≠0)=av from rfl,rs]
   try simp only[rs]
   rw[auR hn]
   try simp only[rs]
   try rw[i_t]
   refine aK 3 c rfl krx rfl sm λc4 c=>?_;refine aK 2 c rfl krx rfl sm λc5 c=>?_;refine aK 1 c rfl krx rfl sm λc6 c=>?_;refine kG sm La (jC (t0:=af b2 0) (t1:=af b3 0) (t2:=af g 0) ?_);simp only[gB,zw,Al,Eng.akE ayD,i_f,dx,exx,stx,eqx,alx];exact q (R:=[]) c hle f.symm
 simp only[t,auT,i_f];have:i=ns.length:=om
 subst this;rw[avX om] at Q;rw[auO (λh=>by
  obtain⟨x,d,h⟩:=awV.1 h;have:=Q x d;simp[this] at h)] at f
 have fin:∀{W:ao},dQ M.A w W (.mem N3::ofC z b2 b3 g o vk vc ov vp 0) ->
   jR (af b2 0) (af b3 0) (af g 0) { target:=.fn (.func 73) #[af b2 0,af b3 0,af g 0],args:=#[]++#[] } W K:=by
  intro W c;unfold jR;refine kG sm La (jC (t0:=af b2 0) (t1:=af b3 0) (t2:=af g 0) ?_);simp only[gB,zw,Al,Eng.akE ayD,i_f,dx,exx,stx,eqx,alx];refine TZ (bG (AtV.cell VE (c.cell 3 rfl 0 rfl))) (bG (AtV.cell Z4 (c.cell 2 rfl 0 rfl))) (bG (AtV.cell GW (c.cell 1 rfl 0 rfl))) ?_;exact hK _ _ N3 _ 0 c rfl hle ⟨ov,vp,by rw[<-f],by rw[<-f];exact m,by rw[<-f];exact B⟩
 have H:ov.oneCell'=true:=m.one;refine⟨?_⟩;have c:=c.drew
 repeat' first
 |exact fin c
 |apply And.intro
 |refine aC (aB VE (c.cell 3 rfl 0 rfl)) |>.mpr ?_
 |refine aC (aB Z4 (c.cell 2 rfl 0 rfl)) |>.mpr ?_
 |refine aK 3 c rfl krx H sm (λ_ c=>?_)
 |refine aK 2 c rfl krx a8 sm (λ_ c=>?_)
 |refine aK 1 c rfl krx rfl sm (λ_ c=>?_)
theorem Ri (o:Ob)(v:aq)(M:Mem)(w:ao)(hw:o.wt<=1000000000)(U:M.has w)(V:OV M.A M.w v o) :
  lA ah 83 #[v] M w (λr N=>∃vn,r=.tuple #[vn,ad (Ff.names o).2]∧SlA N.A N.w vn 1 (Ff.names o).1.length (bT (Ff.names o).1)):=by
 obtain⟨vk,vc,a1,rfl,Y⟩:=V.open;refine aO U λK G=>zF ?_;have H:=Ff.Pz hw;generalize m:Ff.names o=X at G;unfold Ff.names at m;generalize q:Ff.Hu o=F at m H;unfold Ff.Hu at q;unfold pM nz;refine dD o Y.keys.one Y.kids.one (dQ.memS U) λb1 w1 c=>?_;rw[oV c 0 rfl];refine aY c 1 rfl (kX o _ Ff.cT M w1 om (c.hasM 1 rfl) V) ?_;rintro _ N w2 hle ⟨x,rfl,d⟩ c;obtain⟨xk,Z,rfl,d⟩:=iC d;simp only[G5,ex];refine dF c λb3 w3 c=>?_;refine bK 0 d.oneK d.oneC c rfl λw4 c=>?_;have c:dQ M.A w w4 [obE b3 ((Vl.get o Ff.cT).getD Vl.ob0) xk Z,obE b1 o vk vc,.mem N]:=c;rw[eW,bW c 0 rfl];have bad:∀{W:ao} {n:Mem} {L:List Ent} {e:Int} (i:Nat),dQ M.A w W L->L[i]?=ax (.mem n)->M.le n->X=([],e)->K (.returned (.tuple #[dY,ad e])) W:=λi c hi hle d=>
  G _ _ _ _ i c hi hle ⟨dY,by rw[d],by rw[d];exact SlA.nil _ _ _ _⟩
 have main:∀(n:Mem) (I:aq) (cs:List aq) (W:ao) (L:List Ent),M.le n->Jh n I F cs->dQ M.A w W (.mem n::L)->fN I W K:=by
  intro n I cs W L p g c;simp only[fN,nz];refine loop (λvs W=>∃i:Nat,vs=[ad (i:Int)]∧i<=F.length∧(∀x∈F.take i,x.k=5)∧dQ M.A w W (.mem n::L)) (λvs _=>F.length - n0 vs) ⟨0,rfl,om,sm,c⟩ ?_;clear c;rintro vs w6 ⟨i,rfl,hi,z,c⟩ _;simp only[lM,gd,nz];rw[wI g];simp only[rs];by_cases t:(i:Int) < (F.length:Int)
  ·simp only[t,auS,i_t];have l:i < F.length:=om
   obtain⟨b,off,yk,yc,u,O,j⟩:=QX g.sl g.all l;have D:=j w6 (c.hasM 0 rfl) 0 _ rfl;rw[axA] at D;rw[aC (u w6),cO,aH aW D];simp only[rs];by_cases y:F[i].k=5
   ·simp only[auQ (show ¬F[i].k≠5 fromλh=>h y),i_f];rw[aA om om];refine aU ⟨i+1,rfl,om,?_,c⟩ (by simp[n0,RowKit.intOf];omega);rw[avP l];intro x d;rcases avZ.1 d with d|d
    ·exact z x d
    ·rw[avV.1 d];exact y
   ·simp only[auR (show F[i].k≠5 from y),i_t];rw[auP (awV.2 ⟨_,avD l,auR y⟩)] at m;exact bad 0 c rfl p m.symm
  simp only[t,auT,i_f];have:i=F.length:=om
  subst this;rw[awI] at z;rw[auO (λh=>by
   obtain⟨x,d,h⟩:=awV.1 h;exact (avG h) (z x d))] at m
  rw[wI g];simp only[rs];by_cases h8:8 < F.length
  ·rw[auP h8] at m;simp only[show ai ((8:Int) < (F.length:Int))=av from auR om,i_t];exact bad 0 c rfl p m.symm
  rw[auO h8] at m;simp only[show ai ((8:Int) < (F.length:Int))=au from auQ om,i_f];have c:=dQ.nilU c 9 1;refine loop (λvs W=>∃(i:Nat) (ov:aq),vs=[ov,ad (i:Int)]∧i<=F.length∧(∀x∈F.take i,Ff.full x.s≠[])∧dQ M.A w W (stsE ov ((F.take i).map λx=>Ff.full x.s)::.mem n::L)) (λvs _=>F.length - n1 vs) ⟨0,dY,rfl,om,sm,c⟩ ?_;clear c;rintro vs C ⟨i,ov,rfl,hi,P,c⟩ _;simp only[mE,gd,nz];rw[wI g];simp only[rs];by_cases t:(i:Int) < (F.length:Int)
  ·simp only[t,auS,i_t];have l:i < F.length:=om
   obtain⟨b,off,yk,yc,u,O,j⟩:=QX g.sl g.all l;rw[aC (u C),yK,aH BZ (j C (c.hasM 1 rfl) 3 _ rfl)];refine zq (Qk F[i].s C) ?_;simp only[rs];by_cases y:Ff.full F[i].s=[]
   ·rw[auP (awV.2 ⟨_,avD l,auR y⟩)] at m;simp only[auQ (show ¬Ff.full F[i].s≠[] fromλh=>h y),awA,i_t];exact bad 1 c rfl p m.symm
   simp only[auR (show Ff.full F[i].s≠[] from y),avY,i_f];rw[aC (u C),yK,aH BZ (j C (c.hasM 1 rfl) 3 _ rfl)];refine zq (F1 F[i].s C) ?_;refine UM _ c (by rw[avS,avA];omega) λQ W2 c=>?_
   try simp only[rs]
   rw[aA om om];refine aU ⟨i+1,Q,rfl,om,?_,?_⟩ (by simp[n1,RowKit.intOf];omega)
   ·rw[avP l];intro x d;rcases avZ.1 d with d|d
    ·exact P x d
    ·rw[avV.1 d];exact y
   ·rw[avP l,avT];exact c
  simp only[t,auT,i_f];have:i=F.length:=om
  subst this;rw[awI] at P c;rw[auO (λh=>by
   obtain⟨x,d,h⟩:=awV.1 h;exact P x d (avG h))] at m
  obtain⟨R,S,B,c⟩:=c.bH 0 rfl;exact G _ _ R _ 0 c rfl (p.trans S) ⟨ov,by rw[<-m],by rw[<-m];exact B⟩
 have fr:∀{W:ao} {n:Mem} {a b:Ent},dQ M.A w W [a,b,.mem n]->dQ M.A w W [.mem n,a,b]:=λ{W n a b} c=>by
  have c:dQ M.A w W ([a,b]++([.mem n]++[])):=c;exact c.front
 cases hg:Vl.get o Ff.cT with
|none=>
  rw[hg] at q;dsimp only at q;subst q;simp only[awT,rs,awA,i_t];exact bad 2 c rfl hle m.symm
|some f=>
  rw[hg] at q c d;dsimp only at q;rw[awN] at c d;simp only[awU,rs,avY,i_f];refine join λJ hJ=>?_;rw[cO,zn c 0 rfl];simp only[rs];by_cases z:f.k=5
  ·rw[auO om] at q;subst q;simp only[z,auS,i_t];rw[oV c 0 rfl];refine JH _ d.oneK d.oneC c λnb w5 c=>?_;obtain⟨R,S,B,T,c⟩:=Py c 2 rfl d;refine hJ _ _ λ_=>?_;exact main R _ _ w5 _ (hle.trans S) ⟨B,T⟩ (fr c)
  simp only[z,auT,i_f];rw[cO,zn c 0 rfl];simp only[rs];by_cases E:f.k=6
  ·rw[auP E] at q;subst q;simp only[auQ (show ¬f.k≠6 fromλh=>h E),i_f];obtain⟨cs,g⟩:=FM d;refine hJ _ _ λ_=>?_;exact main N Z cs w4 _ hle g (fr c)
  ·rw[auO E] at q;subst q;simp only[auR (show f.k≠6 from E),i_t];rw[auP (by simp[z])] at m;exact bad 2 c rfl hle m.symm
theorem Xz (o:Ob)(v:aq)(M:Mem)(w:ao)(hw:o.wt<=1000000000)(hM:M.has w)(hv:OV M.A M.w v o) :
  lA ah 50 #[v] M w (λr N=>∃vn vp,r=.tuple #[vn,vp,ad (Ff.of o).2.2]∧SlA N.A N.w vn 1 (Ff.of o).1.length (bT (Ff.of o).1)∧SlA N.A N.w vp 3 (Ff.of o).2.1.length ((Ff.of o).2.1.flatMap pmC)):=by
 obtain⟨vk,vc,c9,rfl,ha⟩:=hv.open;refine aO hM λK hK=>Ee ?_;generalize p:Ff.of o=X at hK;unfold Ff.of at p;unfold wM nz;have bad:∀{W:ao} {q:Mem} {L:List Ent} {e:Int} (i:Nat),dQ M.A w W L->L[i]?=ax (.mem q)->M.le q->X=([],[],e)->K (.returned (.tuple #[dY,dY,ad e])) W:=λi c hi hle d=>
  hK _ _ _ _ i c hi hle ⟨dY,dY,by rw[d],by rw[d];exact SlA.nil _ _ _ _,by rw[d];exact SlA.nil _ _ _ _⟩
 refine dD o ha.keys.one ha.kids.one (dQ.memS hM) λb1 w1 c=>?_;rw[cO,zn c 0 rfl];simp only[rs];by_cases h9:o.k=9
 case neg=>
  rw[auP h9] at p;simp only[auR (show o.k≠9 from h9),i_t];exact bad 1 c rfl M.le_refl p.symm
 rw[auO (λh=>h h9)] at p;simp only[auQ (show ¬o.k≠9 fromλh=>h h9),i_f];rw[oV c 0 rfl];have b2:=@Ff.Rf o;refine aY c 1 rfl (Ri o _ M w1 hw (c.hasM 1 rfl) hv) ?_;rintro _ N w2 l1 ⟨vn,rfl,hn⟩ c;generalize Ff.names o=Nn at p hn b2;obtain⟨ns,ne⟩:=Nn;dsimp only at p hn b2;simp only[ex,bO];by_cases O:ne=0
 case neg=>
  rw[auP O] at p;simp only[auR (show ne≠0 from O),i_t];exact bad 1 c rfl l1 p.symm
 rw[auO (λh=>h O)] at p;simp only[auQ (show ¬ne≠0 fromλh=>h O),i_f];rw[oV c 0 rfl];refine aY c 1 rfl (kX o _ Ff.gH N w2 om (c.hasM 1 rfl) (hv.le l1)) ?_;rintro _ N2 w3 l2 ⟨x,rfl,d⟩ c;obtain⟨xk,xc,rfl,d⟩:=iC d;simp only[G5,ex];refine dF c λb7 w4 c=>?_;refine bK 0 d.oneK d.oneC c rfl λw5 c=>?_;have c:dQ M.A w w5 [obE b7 ((Vl.get o Ff.gH).getD Vl.ob0) xk xc,obE b1 o vk vc,.mem N2]:=c;rw[eW,bW c 0 rfl];have H:=@Ff.L9 o ns.length;have b3:=Ff.Ql hw;have Q:∀x∈(Ff.wK o).1,x.wt<=1000000000:=λx d=>by have:=Ff.TR d;omega
 generalize s:Ff.zO o ns.length=P at p H;unfold Ff.zO at s;generalize G:Ff.wK o=D at s b3 Q;obtain⟨l,de⟩:=D;unfold Ff.wK at G;dsimp only at s b3 Q;have C:∀{W:ao} {q:Mem} {L:List Ent} {e:Int} (i:Nat),dQ M.A w W L->L[i]?=ax (.mem q)->M.le q->P=([],e)->e≠0->K (.returned (.tuple #[dY,dY,ad e])) W:=λi c hi hle hp h0=>by
  rw[hp,auP h0] at p;exact bad i c hi hle p.symm
 have Y:=l1.trans l2;refine join λJ hJ=>?_;have main:de=0->∀(q:Mem) (vl:aq) (cs:List aq) (W:ao) (L:List Ent),N2.le q->Jh q vl l cs->dQ M.A w W (.mem q::L)->J [vl] W:=by
  intro b8 q vl cs W L Z t c;rw[auO (by rw[b8];decide)] at s;refine hJ _ _ λ_=>?_;simp only[rR,gd,nz];have c:=dQ.nilU c 73 3;refine loop (λvs W=>∃(i:Nat) (ov:aq) (R:Mem),vs=[ov,ad (i:Int)]∧i<=l.length∧(∀x∈l.take i,(Ff.BY x).2=0)∧q.le R∧dQ M.A w W (FG ov ((l.take i).map λx=>(Ff.BY x).1)::.mem R::L)) (λvs _=>l.length - n1 vs) ⟨0,dY,q,rfl,om,sm,q.le_refl,c⟩ ?_;clear c;rintro vs w6 ⟨i,ov,R,rfl,hi,h0,l3,c⟩ _;simp only[rF,gd,nz];rw[wI t];simp only[rs];have z:=(Y.trans Z).trans l3;by_cases n:(i:Int) < (l.length:Int)
  ·simp only[n,auS,i_t];have m:i < l.length:=om
   refine Lf (t.le l3) m (c.hasM 1 rfl) λyk yc S=>?_;refine aY c 1 rfl (SM l[i] _ R w6 (by have:=Q _ (avD m);omega) (c.hasM 1 rfl) S) ?_;rintro _ T w7 U rfl c;simp only[ex];refine WD c λe0 w8 c=>?_;refine I5 0 (Ff.BY l[i]).1 c rfl λw9 c=>?_;simp only[bO];by_cases he:(Ff.BY l[i]).2=0
   case neg=>
    have b4:(Ff.BY l[i]).2=10:=by
     unfold Ff.BY at he ⊢;split
     ·rename_i h;rw[auP h] at he;exact absurd rfl he
     rename_i h;rw[auO h] at he
     split
     ·rename_i h2;rw[auP h2] at he;exact absurd rfl he
     ·rfl
    rw[auP (awV.2 ⟨_,avD m,auR he⟩)] at s;rw[auR (show (Ff.BY l[i]).2≠0 from he),i_t,b4];exact C 2 c rfl (z.trans U) s.symm dc
   simp only[auQ (show ¬(Ff.BY l[i]).2≠0 fromλh=>h he),i_f];rw[Ij c 0 rfl];refine TO _ c.tail (by rw[avS,avA];omega) λV W3 c=>?_
   try simp only[rs]
   rw[aA om om];refine aU ⟨i+1,V,T,rfl,om,?_,l3.trans U,?_⟩ (by simp[n1,RowKit.intOf];omega)
   ·rw[avP m];intro x d;rcases avZ.1 d with d|d
    ·exact h0 x d
    ·rw[avV.1 d];exact he
   ·rw[avP m,avT];exact c
  simp only[n,auT,i_f];have:i=l.length:=om
  subst this;rw[awI] at h0 c;rw[auO (λh=>by
   obtain⟨x,d,h⟩:=awV.1 h;exact (avG h) (h0 x d))] at s
  generalize b9:(l.map λx=>(Ff.BY x).1)=ps at s c;have a1:ps.length=l.length:=by rw[<-b9,avS]
  have I:∀{W:ao} {u:aq} {E:List Pm} {L:List Ent} {PK:PKT} {K:VWP},dQ M.A w W (FG u E::L)->DoX ah (mB .len #[75] 3 #[au] #[u]) W PK K=K (ad (E.length:Int)) W:=λ{W u E L PK K} c=>by
   obtain⟨_,a,cap,h,_⟩:=Sl.urow (c.at_ 0 rfl);subst h;exact bP azG
  have a6:∀{W:ao} {PK:PKT} {K:VWP},DoX ah (mB .len #[22] 3 #[au] #[vn]) W PK K=K (ad (ns.length:Int)) W:=λ{_ _ _}=>by
   obtain⟨a,cap,rfl,_⟩:=hn.form;exact bP avH
  rw[I c,a6];simp only[rs];by_cases b5:ns.length < l.length
  ·rw[auP b5] at s;simp only[show ai ((ns.length:Int) < (ps.length:Int))=av from auR om,i_t];exact C 1 c rfl z s.symm dc
  rw[auO b5] at s;simp only[show ai ((ns.length:Int) < (ps.length:Int))=au from auQ om,i_f];refine loop (λvs W=>∃(i:Nat) (T:Mem),vs=[ad (i:Int)]∧i<=l.length∧(∀x∈l.take i,Ff.eight x=av)∧R.le T∧dQ M.A w W (FG ov ps::.mem T::L)) (λvs _=>l.length - n0 vs) ⟨0,R,rfl,om,sm,R.le_refl,c⟩ ?_;clear c;rintro vs w7 ⟨i,T,rfl,hi,h8,U,c⟩ _;simp only[sW,gd,nz];rw[wI t];simp only[rs];by_cases n:(i:Int) < (l.length:Int)
  ·simp only[n,auS,i_t];have m:i < l.length:=om
   refine Lf ((t.le l3).le U) m (c.hasM 1 rfl) λyk yc S=>?_;refine aY c 1 rfl (Te l[i] _ T w7 (by have:=Q _ (avD m);omega) (c.hasM 1 rfl) S) ?_;rintro _ N5 w8 l5 rfl c;cases he:Ff.eight l[i] with
  |false=>
    rw[auP (awV.2 ⟨_,avD m,by rw[he];rfl⟩)] at s;simp only[awA,i_t];exact C 1 c rfl ((z.trans U).trans l5) s.symm dc
  |true=>
    simp only[avY,i_f,rs];rw[aA om om];refine aU ⟨i+1,N5,rfl,om,?_,U.trans l5,c⟩ (by simp[n0,RowKit.intOf];omega);rw[avP m];intro x d;rcases avZ.1 d with d|d
    ·exact h8 x d
    ·rw[avV.1 d];exact he
  simp only[n,auT,i_f];have:i=l.length:=om
  subst this;rw[awI] at h8;rw[auO (λh=>by
   obtain⟨x,d,h⟩:=awV.1 h;rw[h8 x d] at h;cases h)] at s
  refine loop (λvs W=>∃(j:Nat) (ov:aq),vs=[ov]∧l.length+j<=ns.length∧dQ M.A w W (FG ov (ps++List.replicate j Ff.qY)::.mem T::L)) (λvs _=>ns.length - WK (vs.getD 0 undef)) ⟨0,ov,rfl,om,by rw[aBj,awF];exact c⟩ ?_;clear c;rintro vs w8 ⟨j,ov,rfl,hj,c⟩ _;have a7:(ps++List.replicate j Ff.qY).length=l.length+j:=by rw[auU,awJ,a1]
  simp only[sI,gd,nz];rw[I c,a6,a7];simp only[rs];by_cases n:((l.length+j:Nat):Int) < (ns.length:Int)
  ·simp only[n,auS,i_t];have c0:∃a cap,ov=.slice a (l.length+j) cap:=by
    obtain⟨_,a,cap,h,_⟩:=Sl.urow (c.at_ 0 rfl);exact⟨a,cap,by rw[h,a7]⟩
   obtain⟨a,cap,c1⟩:=c0;refine aI c (Jj w8) ?_;rintro _ w9 rfl c;refine TO _ c (by rw[a7];omega) λV W3 c=>?_;have c:dQ M.A w W3 (FG V (ps++List.replicate (j+1) Ff.qY)::.mem T::L):=by
    rw[aAZ,<-avO];exact c
   have b6:(ps++List.replicate (j+1) Ff.qY).length=l.length+(j+1):=by rw[auU,awJ,a1]
   refine aU ⟨j+1,V,rfl,om,c⟩ ?_;obtain⟨_,a',c8,h',_⟩:=Sl.urow (c.at_ 0 rfl);rw[c1,h',b6];show ns.length - (l.length+(j+1)) < ns.length - (l.length+j);omega
  simp only[n,auT,i_f];have c2:j=ns.length - l.length:=om
  subst c2;subst s;dsimp only at p H;have H:=H rfl;rw[auO dc] at p;generalize ps++List.replicate (ns.length - l.length) Ff.qY=E at p c H;refine loop (λvs W=>∃i:Nat,vs=[ad (i:Int)]∧i<=E.length∧(∀x∈E.take i,x.ok)∧dQ M.A w W (FG ov E::.mem T::L)) (λvs _=>E.length - n0 vs) ⟨0,rfl,om,sm,c⟩ ?_;clear c;rintro vs a8 ⟨i,rfl,hi,b0,c⟩ _;simp only[rO,gd,nz];rw[I c];simp only[rs];by_cases n:(i:Int) < (E.length:Int)
  ·simp only[n,auS,i_t];have m:i < E.length:=om
   obtain⟨g,cap,e1,c3,c4,_⟩:=rec_row XU azG szPm F3 0 c rfl m;rw[aC (c3 a8),aC (c4 a8 (c.at_ 0 rfl))];refine aI c (vD E[i] a8) ?_;rintro _ e2 rfl c;simp only[bO];by_cases d:E[i].ok
   ·rw[auP d];simp only[show ai ((0:Int)≠0)=au from rfl,i_f]
    try simp only[rs]
    rw[aA om om];refine aU ⟨i+1,rfl,om,?_,c⟩ (by simp[n0,RowKit.intOf];omega);rw[avP m];intro y S;rcases avZ.1 S with S|S
    ·exact b0 y S
    ·rw[avV.1 S];exact d
   ·rw[auO d];rw[auP (awV.2 ⟨_,avD m,by simp[d]⟩)] at p;simp only[show ai ((1:Int)≠0)=av from rfl,i_t];exact bad 1 c rfl (z.trans U) p.symm
  simp only[n,auT,i_f];have:i=E.length:=om
  subst this;rw[awI] at b0;rw[auO (λh=>by
   obtain⟨x,d,h⟩:=awV.1 h;have:=b0 x d;simp[this] at h)] at p
  obtain⟨N6,l6,c5,c⟩:=c.bH 0 rfl;refine hK _ _ N6 _ 0 c rfl ((z.trans U).trans l6) ⟨vn,ov,by rw[<-p],by rw[<-p];exact ((((hn.le l2).le Z).le l3).le U).le l6,by rw[<-p];exact c5⟩
 have fr:∀{W:ao} {q:Mem} {a b:Ent},dQ M.A w W [a,b,.mem q]->dQ M.A w W [.mem q,a,b]:=λ{W q a b} c=>by
  have c:dQ M.A w W ([a,b]++([.mem q]++[])):=c;exact c.front
 cases hg:Vl.get o Ff.gH with
|none=>
  rw[hg] at G d;dsimp only at G
  injection G with F B
  subst F;simp only[awT,rs,i_f,iO];obtain⟨cs,t⟩:=FM d;exact main B.symm N2 xc cs w5 _ N2.le_refl t (fr c)
|some f=>
  rw[hg] at G c d;dsimp only at G;rw[awN] at c d;simp only[awU,rs];rw[cO,zn c 0 rfl];simp only[rs];by_cases h7:f.k=7
  ·rw[auO om,auP h7] at G
   injection G with F B
   subst F;simp only[h7,auS,i_t];rw[oV c 0 rfl];refine JH _ d.oneK d.oneC c λnb w6 c=>?_;obtain⟨R,l3,c6,c7,c⟩:=Py c 2 rfl d;exact main B.symm R _ _ w6 _ l3 ⟨c6,c7⟩ (fr c)
  simp only[h7,auT,i_f];rw[cO,zn c 0 rfl];simp only[rs];by_cases h6:f.k=6
  ·rw[auP h6] at G
   injection G with F B
   subst F;simp only[auQ (show ¬f.k≠6 fromλh=>h h6),i_f];obtain⟨cs,t⟩:=FM d;exact main B.symm N2 xc cs w5 _ N2.le_refl t (fr c)
  ·rw[auO h6,auO h7] at G
   injection G with F B
   simp only[auR (show f.k≠6 from h6),i_t];rw[auP (by rw[<-B];decide)] at s;exact C 2 c rfl Y s.symm dc
end
section
open Go
def ew (tag:Int)(above row:List UInt8)(colors:Int):List UInt8:=(List.range row.length).map λi=>row.getD i 0 - dy tag above row (i:Int) colors
theorem ke {tag:Int}{row:List UInt8}:(ew tag above row colors).length=row.length:=by simp[ew]
theorem vw {tag:Int}{row:List UInt8}(h:i < row.length):(ew tag above row colors)[i]?=ax (row[i] - dy tag above row (i:Int) colors):=by
 simp[ew,h,auZ]
def lg (T:List UInt8->List UInt8->Nat)(c:Int)(n h:Nat):Nat->List UInt8->List UInt8->List UInt8
|0,_,_=>[]
|f+1,s,prev=>if s=[] then [] else (if h=1 then [UInt8.ofNat (T prev (s.take n))] else [])++(ew (T prev (s.take n):Nat) prev (s.take n) c++lg T c n h f (s.drop n) (s.take n))
def ed (l:List UInt8):Nat:=(l.map λc=>min c.toNat (256 - c.toNat)).sum
def iz (above row:List UInt8)(c:Int):Nat->Nat×Nat
|0=>(0,ed (ew 0 above row c))
|k+1=>if ed (ew ((k+1:Nat):Int) above row c) < (iz above row c k).2 then (k+1,ed (ew ((k+1:Nat):Int) above row c)) else iz above row c k
def ox (above row:List UInt8)(c:Int):Nat:=(iz above row c 4).1
def mq (p c:Int)(above row:List UInt8):Nat:=if p=2 then 1 else if p=15 then ox above row c else (p - 10).toNat
def ct (l:List Nat)(i:Nat):Nat:=
 l.getD (8*i) 0+2*l.getD (8*i+1) 0+4*l.getD (8*i+2) 0+8*l.getD (8*i+3) 0+16*l.getD (8*i+4) 0+32*l.getD (8*i+5) 0+64*l.getD (8*i+6) 0+128*l.getD (8*i+7) 0
def az (l:List Nat):List UInt8:=(List.range ((l.length+7) / 8)).map λi=>UInt8.ofNat (ct l i)
def bf (v n:Nat):List Nat:=(List.range n).map λi=>v / 2 ^ i % 2
def dz (l:List Nat):Prop:=∀b∈l,b < 2
theorem eg (v n:Nat):(bf v n).length=n:=by simp[bf]
theorem ei (v n:Nat):dz (bf v n):=by
 intro b a;obtain⟨i,_,rfl⟩:=awD.1 a;exact ayE _ dc
theorem qf (l:List Nat):(az l).length=(l.length+7) / 8:=by simp[az]
theorem dd {a b:List Nat}(c:dz a)(d:dz b):dz (a++b):=λx e=>(avZ.1 e).elim (c x) (d x)
end
def iw (v n:Nat):List Nat:=(List.range n).map λi=>v / 2 ^ (n - 1 - i) % 2
theorem tp (v n:Nat):(iw v n).length=n:=by simp[iw]
theorem vz (v n:Nat):dz (iw v n):=by
 intro b a;obtain⟨i,_,rfl⟩:=awD.1 a;exact ayE _ dc
def gh (lens:List Nat)(i:Nat):List Nat:=iw (ep lens i) (lens.getD i 0)
theorem jj (lens:List Nat)(i:Nat):(gh lens i).length=lens.getD i 0:=tp ..
theorem kg (lens:List Nat)(i:Nat):dz (gh lens i):=vz _ _
theorem tq (lens:List Nat):∀l,l < 15->(Fl.first lens (l+1)+lens.count (l+1))*2 ^ (15 - (l+1))=Fl.iX lens (l+1)
|0,_=>by simp[Fl.first,Fl.iX]
|l+1,h=>by
  have a:=tq lens l om;rw[Fl.iX,<-a,Fl.first,axY]
  congr 1
  rw[show 15 - (l+1)=(15 - (l+1+1))+1 by omega,ayN,azZ 2,Nat.mul_assoc,azZ 2]
theorem we (lens:List Nat){a:Nat}(h:a<=b):Fl.iX lens a<=Fl.iX lens b:=by
 induction b with
|zero=>
  have:a=0:=om
  subst this;exact auY _
|succ b c=>
  rcases awO a (b+1) with d|d
  ·have:=c om;rw[Fl.iX];omega
  ·have:a=b+1:=om
   subst this;exact auY _
theorem tu (lens:List Nat):∀l,Fl.iX lens l<=Fl.bF lens l*2 ^ 15
|0=>by simp[Fl.iX]
|l+1=>by
  have a:=tu lens l;rw[Fl.iX,Fl.bF,axY];have:lens.count (l+1)*2 ^ (15 - (l+1))<=lens.count (l+1)*2 ^ 15:=Nat.mul_le_mul_left _ (awC dc om);omega
theorem yi {lens:List Nat}(h:Fl.check lens=0):Fl.iX lens 15<=2 ^ 15:=by
 unfold Fl.check at h;split at h
 ·rename_i a
  have:=tu lens 15;rcases a with a|a|a
  ·omega
  ·rw[a] at this;omega
  ·rw[a.1] at this;omega
 ·cases h
theorem yj {lens:List Nat}(h:bh lens=0):Fl.check lens=0:=by
 unfold bh at h;split at h
 ·cases h
 ·exact h
theorem yl {lens:List Nat}(h:Fl.iX lens 15<=2 ^ 15){n:Nat}(d:0 < n)(a:n<=15):Fl.first lens n+lens.count n<=2 ^ n:=by
 obtain⟨l,rfl⟩:∃l,n=l+1:=⟨n - 1,om⟩;have b:=tq lens l om;have e:=we lens a;have c:(Fl.first lens (l+1)+lens.count (l+1))*2 ^ (15 - (l+1))<=2 ^ (l+1)*2 ^ (15 - (l+1)):=by
  rw[b,<-Nat.pow_add,show l+1+(15 - (l+1))=15 by omega];omega
 exact Nat.le_of_mul_le_mul_right c (aAI _)
theorem wg {lens:List Nat}(hi:i < lens.length):(lens.take i).count (lens.getD i 0) < lens.count (lens.getD i 0):=by
 have h:lens=lens.take i++lens.drop i:=(azL i lens).symm;have a:lens.drop i=lens.getD i 0::lens.drop (i+1):=by
  rw[avW hi,auZ,auX hi];rfl
 have e:lens.count (lens.getD i 0)=(lens.take i++lens.getD i 0::lens.drop (i+1)).count (lens.getD i 0):=by rw[<-a,<-h]
 rw[e,aAa,List.count_cons_self];omega
theorem wh {lens:List Nat}(h:Fl.iX lens 15<=2 ^ 15)(b:∀l∈lens,l<=15)(hi:0 < lens.getD i 0):ep lens i < 2 ^ lens.getD i 0:=by
 have a:i < lens.length:=by
  rcases awO i lens.length with h|h
  ·exact h
  ·rw[auZ,ayG h] at hi;exact absurd hi (aAp _)
 have hm:lens.getD i 0∈lens:=by rw[auZ,auX a];exact avD ..
 unfold ep;rw[auO om];have c:=wg a;have d:=yl h hi (b _ hm);omega
def jt (group:Nat):Nat->Nat->Nat->Nat->Nat×Nat×Nat
|0,n,sign,bits=>(sign+n / 2 ^ bits,n % 2 ^ bits,bits)
|f+1,n,sign,bits=>if group*2 ^ bits<=n then jt group f (n - group*2 ^ bits) (sign+group) (bits+1) else (sign+n / 2 ^ bits,n % 2 ^ bits,bits)
def gx (n a group:Nat):Nat×Nat×Nat:=if n < a then (n,0,0) else jt group 20 (n - a) a 1
def da (size:Nat):Nat×Nat×Nat:=if size=258 then (285,0,0) else (257+(gx (size - 3) 8 4).1,(gx (size - 3) 8 4).2)
def ee (d:Nat):Nat×Nat×Nat:=gx (d - 1) 4 2
def ra (n:Nat):Bool:=let r:=da (n+3);ai (257<=r.1)&&ai (r.1<=285)&&ai (cg (r.1 - 257)=r.2.2)&&ai (fc (r.1 - 257)+r.2.1=n+3)&&ai (r.2.1 < 2 ^ r.2.2)&&ai (r.2.2<=5)
theorem nu {n:Nat}(j:3<=n)(h:n<=258):257<=(da n).1∧(da n).1<=285∧cg ((da n).1 - 257)=(da n).2.2∧fc ((da n).1 - 257)+(da n).2.1=n∧(da n).2.1 < 2 ^ (da n).2.2∧(da n).2.2<=5:=by
 have i:(List.range 256).all ra=true:=by decide +kernel
 have g:=axI.1 i (n - 3) (axE.2 om);unfold ra at g;rw[show n - 3+3=n by omega] at g;simp only[avM,awG] at g;obtain⟨⟨⟨⟨⟨a,b⟩,c⟩,d⟩,e⟩,f⟩:=g;exact⟨a,b,c,d,e,f⟩
theorem re (n:Nat):∀(f k:Nat),2 ^ (k+1)<=n->n < 2 ^ (k+f+2) ->
  ∃m,k<=m∧2 ^ (m+1)<=n∧n < 2 ^ (m+2)∧jt 2 f (n - 2 ^ (k+1)) (2+2*k) k=(2+2*m+(n - 2 ^ (m+1)) / 2 ^ m,(n - 2 ^ (m+1)) % 2 ^ m,m)
|0,k,h,e=>⟨k,auY _,h,e,rfl⟩
|f+1,k,h,e=>by
  have i:2 ^ (k+2)=2*2 ^ (k+1):=by rw[ayN];omega
  have j:2 ^ (k+1)=2*2 ^ k:=by rw[ayN];omega
  unfold jt;by_cases g:2*2 ^ k<=n - 2 ^ (k+1)
  ·rw[auP g];obtain⟨m,a,b,c,d⟩:=re n f (k+1) (by rw[show k+1+1=k+2 by omega];omega) (by rw[show k+1+f+2=k+(f+1)+2 by omega];exact e);refine⟨m,om,b,c,?_⟩;rw[<-d,show n - 2 ^ (k+1) - 2*2 ^ k=n - 2 ^ (k+1+1) by rw[show k+1+1=k+2 by omega];omega,show 2+2*k+2=2+2*(k+1) by omega]
  ·rw[auO g];exact⟨k,auY _,h,om,rfl⟩
def oy (m:Nat):Bool:=ai (di (2+2*m)=1+2 ^ (m+1))&&ai (di (2+2*m+1)=1+2 ^ (m+1)+2 ^ m)
theorem qg (s:1<=d)(h:d<=32768):(ee d).1<=29∧bp (ee d).1=(ee d).2.2∧di (ee d).1+(ee d).2.1=d∧(ee d).2.1 < 2 ^ (ee d).2.2∧(ee d).2.2<=13:=by
 unfold ee gx;by_cases k:d - 1 < 4
 ·rw[auP k];rcases (by omega:d=1∨d=2∨d=3∨d=4) with rfl|rfl|rfl|rfl<;>decide
 ·rw[auO k];obtain⟨m,a,b,c,e⟩:=re (d - 1) 20 1 om (by have:(2:Nat) ^ (1+20+2)=8388608:=rfl;omega);have hm:m<=13:=by
   rcases awO m 14 with l|l
   ·omega
   ·have:=awC (n:=2) dc (show 15<=m+1 by omega);have o:(2:Nat) ^ 15=32768:=rfl;omega
  have p:jt 2 20 (d - 1 - 4) 4 1=jt 2 20 (d - 1 - 2 ^ (1+1)) (2+2*1) 1:=rfl;rw[p,e];have t:2 ^ (m+1)=2*2 ^ m:=by rw[ayN];omega
  have u:2 ^ (m+2)=4*2 ^ m:=by rw[ayN,ayN];omega
  have pp:=aAI m;have g:(List.range 14).all oy=true:=by decide +kernel
  have g:=axI.1 g m (axE.2 om);unfold oy at g;rw[avM,awG,awG] at g;have i:=Nat.div_add_mod (d - 1 - 2 ^ (m+1)) (2 ^ m);have f:=ayE (d - 1 - 2 ^ (m+1)) pp;have j:(d - 1 - 2 ^ (m+1)) / 2 ^ m < 2:=(Nat.div_lt_iff_lt_mul pp).2 om;generalize (d - 1 - 2 ^ (m+1)) / 2 ^ m=q at i j ⊢;generalize (d - 1 - 2 ^ (m+1)) % 2 ^ m=r at i f ⊢;rcases (by omega:q=0∨q=1) with rfl|rfl
  ·refine⟨by show 2+2*m+0<=29;omega,by show (2+2*m+0) / 2 - 1=m;omega,?_,f,hm⟩;show di (2+2*m)+r=d;rw[g.1];omega
  ·refine⟨by show 2+2*m+1<=29;omega,by show (2+2*m+1) / 2 - 1=m;omega,?_,f,hm⟩;show di (2+2*m+1)+r=d;rw[g.2];omega
abbrev bt:=UInt8×Nat×Nat
def je (n:Nat)(x:bt):Prop:=if x.2.1=0 then x.2.2=0 else x.1=0∧3<=x.2.1∧x.2.1<=258∧1<=x.2.2∧x.2.2<=32768∧x.2.2<=n
def kh:Nat->List bt->Prop
|_,[]=>True
|n,x::l=>je n x∧kh (n+max x.2.1 1) l
def fx (near far:List Nat)(x:bt):List Nat:=
 if x.2.1=0 then gh near x.1.toNat
 else gh near (da x.2.1).1++(bf (da x.2.1).2.1 (da x.2.1).2.2++(gh far (ee x.2.2).1++bf (ee x.2.2).2.1 (ee x.2.2).2.2))
def kd (near far:List Nat)(x:bt):Prop:=
 if x.2.1=0 then 0 < near.getD x.1.toNat 0 else 0 < near.getD (da x.2.1).1 0∧0 < far.getD (ee x.2.2).1 0
def gy (near far:List Nat)(l:List bt):List Nat:=l.flatMap (fx near far)++gh near 256
theorem wi (near far:List Nat)(x:bt):dz (fx near far x):=by
 unfold fx;split
 ·exact kg _ _
 ·exact dd (kg _ _) (dd (ei _ _) (dd (kg _ _) (ei _ _)))
def gf (s:List UInt8):List Nat:=s.flatMap λc=>bf c.toNat 8
theorem qh:∀s:List UInt8,(gf s).length=8*s.length
|[]=>rfl
|c::s=>by
  have:=qh s;unfold gf at this ⊢;rw[ayM,auU,this,eg,avR];omega
theorem wj (s:List UInt8):dz (gf s):=λb a=>by
 obtain⟨c,_,d⟩:=aAF.1 a;exact ei _ _ b d
theorem wk {a b:List Nat}{k:Nat}(h:a.length=8*k)(hi:i < k):ct (a++b) i=ct a i:=by
 have e:∀j,j < 8->(a++b).getD (8*i+j) 0=a.getD (8*i+j) 0:=λj c=>by
  rw[auZ,axO om,auZ]
 unfold ct;rw[e 1 om,e 2 om,e 3 om,e 4 om,e 5 om,e 6 om,e 7 om,show (a++b).getD (8*i) 0=a.getD (8*i) 0 from e 0 om]
theorem wm {a b:List Nat}{k:Nat}(h:a.length=8*k):ct (a++b) (k+i)=ct b i:=by
 have e:∀j,(a++b).getD (8*(k+i)+j) 0=b.getD (8*i+j) 0:=λj=>by
  rw[auZ,ayL om,auZ,show 8*(k+i)+j - a.length=8*i+j by omega]
 unfold ct;rw[e 1,e 2,e 3,e 4,e 5,e 6,e 7,show (a++b).getD (8*(k+i)) 0=b.getD (8*i) 0 from e 0]
theorem nw {a b:List Nat}{k:Nat}(h:a.length=8*k):az (a++b)=az a++az b:=by
 unfold az;rw[auU,h,show (8*k+b.length+7) / 8=k+(b.length+7) / 8 by omega,show (8*k+7) / 8=k by omega,List.range_add,avT,aAg]
 congr 1
 ·refine azV λi hi=>?_;rw[wk h (axE.1 hi)]
 ·refine azV λi _=>?_;show UInt8.ofNat (ct (a++b) (k+i))=_;rw[wm h]
theorem wo:∀n:Fin 256,az (bf n.val 8)=[UInt8.ofNat n.val]:=by decide +kernel
theorem uz (c:UInt8):az (bf c.toNat 8)=[c]:=by
 have:=wo ⟨c.toNat,c.toNat_lt⟩;rw[this,UInt8.ofNat_toNat]
theorem tw (b:List Nat):∀s:List UInt8,az (gf s++b)=s++az b
|[]=>rfl
|c::s=>by
  have e:gf (c::s)=bf c.toNat 8++gf s:=by unfold gf;rw[ayM]
  rw[e,avO,nw (k:=1) (eg _ _),tw b s,uz];rfl
def fk (l:List Nat):List Nat:=l++List.replicate ((8 - l.length % 8) % 8) 0
theorem qi (l:List Nat):(fk l).length=8*((l.length+7) / 8):=by
 unfold fk;rw[auU,awJ];omega
theorem ym (l:List Nat):az (fk l)=az l:=by
 have e:∀j,(fk l).getD j 0=l.getD j 0:=λj=>by
  unfold fk;rw[auZ,auZ];rcases awO j l.length with h|h
  ·rw[axO h]
  ·rw[ayL h,ayG (l:=l) h,aAH];split<;>rfl
 unfold az;rw[qi,show (8*((l.length+7) / 8)+7) / 8=(l.length+7) / 8 by omega];refine azV λi _=>?_;unfold ct;rw[e,e,e,e,e,e,e,e]
theorem wq (h:dz l):dz (fk l):=dd h λb a=>by rw[ayA a];decide
def ki (last n:Nat)(s:List UInt8):List Nat:=bf last 1++(bf 0 2++(List.replicate 5 0++(bf n 16++(bf (65535 - n) 16++gf s))))
def mr:Nat->List UInt8->List Nat
|0,_=>[]
|f+1,s=>if s.length<=65535 then ki 1 s.length s else ki 0 65535 (s.take 65535)++mr f (s.drop 65535)
theorem qj (last n:Nat)(s:List UInt8):(ki last n s).length=40+8*s.length:=by
 unfold ki;simp only[auU,eg,awJ,qh];omega
theorem wu (last n:Nat)(s:List UInt8):dz (ki last n s):=
 dd (ei _ _) (dd (ei _ _) (dd (λb a=>by rw[ayA a];decide) (dd (ei _ _) (dd (ei _ _) (wj _)))))
def gn (s:List UInt8):List Nat:=mr (s.length / 65535+1) s
def fw (l:List bt):List Nat:=bf 1 1++(bf 1 2++gy bj cj l)
def wx (i:Nat):Bool:=ai (0 < bj.getD i 0)
theorem qk (h:i < 288):0 < bj.getD i 0:=by
 have a:(List.range 288).all wx=true:=by decide +kernel
 exact avG (axI.1 a i (axE.2 h))
theorem wy (h:i < 32):0 < cj.getD i 0:=by
 unfold cj;rw[auZ,aAH,auP h];decide
theorem ny:∀l∈bj,l<=15:=by
 have a:bj.all (λl=>ai (l<=15))=true:=by decide +kernel
 exactλl b=>avG (axI.1 a l b)
theorem ql:∀l∈cj,l<=15:=λl a=>by rw[ayA a];decide
theorem ma:∀{l:List bt} {n:Nat},kh n l->∀x∈l,∃m,je m x
|y::l,n,h,x,a=>by
  rcases avB.1 a with rfl|a
  ·exact⟨n,h.1⟩
  ·exact ma h.2 x a
theorem yn {l:List bt}{n:Nat}(h:kh n l):∀x∈l,kd bj cj x:=by
 intro x d;obtain⟨m,hm⟩:=ma h x d;unfold je at hm;unfold kd;by_cases c:x.2.1=0
 ·rw[auP c];have:=x.1.toNat_lt;exact qk om
 ·rw[auO c] at hm ⊢;have a:=nu hm.2.1 hm.2.2.1;have b:=qg hm.2.2.2.1 hm.2.2.2.2.1;exact⟨qk om,wy om⟩
abbrev dh:=Nat×Nat×Nat
def mc (cl:List Nat)(m:dh):List Nat:=gh cl m.1++bf m.2.1 m.2.2
def gz (cl:List Nat)(l:List dh):List Nat:=l.flatMap (mc cl)
theorem wz (cl:List Nat)(m:dh):dz (mc cl m):=dd (kg _ _) (ei _ _)
theorem xa (cl:List Nat)(l:List dh):dz (gz cl l):=λb a=>by
 obtain⟨x,_,c⟩:=aAF.1 a;exact wz cl x b c
theorem ja {P:Nat->Prop}(h:∀x∈l,P x)(a:P 0)(i:Nat):P (l.getD i 0):=by
 rw[auZ];cases c:l[i]? with
|none=>exact a
|some b=>exact h b (ayQ c)
theorem yp (h:i < 19):db.getD i 0 < 19:=by
 have a:(List.range 19).all (λi=>ai (db.getD i 0 < 19))=true:=by decide +kernel
 exact avG (axI.1 a i (axE.2 h))
def iq (cl:List Nat)(k:Nat):List Nat:=(List.range k).flatMap λi=>bf (cl.getD (db.getD i 0) 0) 3
theorem tx (cl:List Nat)(k:Nat):iq cl (k+1)=iq cl k++bf (cl.getD (db.getD k 0) 0) 3:=by
 unfold iq;rw[azM,axH];simp
theorem tz (cl:List Nat):∀k,(iq cl k).length=3*k
|0=>rfl
|k+1=>by rw[tx,auU,tz cl k,eg];omega
theorem rh (cl:List Nat)(k:Nat):dz (iq cl k):=λb a=>by
 obtain⟨x,_,c⟩:=aAF.1 a;exact ei _ _ b c
inductive Cn where
|leaf (w s:Nat)
|node (a b:Cn)
 deriving DecidableEq
def Cn.wt:Cn->Nat
|.leaf w _=>w
|.node a b=>a.wt+b.wt
def Cn.cnt (s:Nat):Cn->Nat
|.leaf _ t=>if t=s then 1 else 0
|.node a b=>a.cnt s+b.cnt s
def Cn.bV:List Cn->List Cn
|a::b::l=>.node a b::Cn.bV l
|_=>[]
def Cn.sum (f:Cn->Nat)(l:List Cn):Nat:=(l.map f).sum
theorem Cn.sum_cons (f:Cn->Nat)(c:Cn)(l:List Cn):Cn.sum f (c::l)=f c+Cn.sum f l:=rfl
theorem Cn.Yc (f:Cn->Nat)(a b:List Cn):Cn.sum f (a++b)=Cn.sum f a+Cn.sum f b:=by unfold Cn.sum;rw[avT,aAl]
theorem Cn.LA:∀l:List Cn,(Cn.bV l).length=l.length / 2
|[]=>rfl
|[_]=>by simp[Cn.bV]
|a::b::l=>by
  show (Cn.bV l).length+1=(l.length+1+1) / 2;rw[Cn.LA l];omega
structure Cn.Lv (L:List Cn) (Sy:List Nat):Prop where
 leaf:∀x∈L,∃w s,x=.leaf w s∧0 < w∧s∈Sy
 has:∀s∈Sy,∃w,Cn.leaf w s∈L
 uniq:∀w v s,Cn.leaf w s∈L->Cn.leaf v s∈L->w=v
 nodup:L.Nodup
 nodupS:Sy.Nodup
 len:L.length=Sy.length
def bn (counts:List Nat):List Nat:=(List.range counts.length).filter λi=>ai (0 < counts.getD i 0)
theorem ua {counts:List Nat}{s:Nat}:s∈bn counts↔0 < counts.getD s 0:=by
 unfold bn;rw[List.mem_filter,axE,awG];refine⟨λh=>h.2,λh=>⟨?_,h⟩⟩;rcases awO s counts.length with a|a
 ·exact a
 ·rw[auZ,ayG a] at h;exact absurd h (aAp _)
theorem ub (counts:List Nat):(bn counts).Nodup:=List.nodup_range.filter _
def iu (counts:List Nat):List Cn:=(bn counts).map λs=>.leaf (counts.getD s 0) s
theorem xd (counts:List Nat):Cn.Lv (iu counts) (bn counts) where
 leaf:=λx g=>by
  obtain⟨s,c,rfl⟩:=awD.1 g;exact⟨_,_,rfl,ua.1 c,c⟩
 has:=λs c=>⟨_,awD.2 ⟨s,c,rfl⟩⟩
 uniq:=λw v s i j=>by
  obtain⟨a,_,d⟩:=awD.1 i;obtain⟨b,_,f⟩:=awD.1 j
  injection d with d k
  injection f with f l
  rw[<-d,<-f,k,l]
 nodup:=by
  unfold iu;rw[List.nodup_iff_pairwise_ne,List.pairwise_map];refine (List.nodup_iff_pairwise_ne.1 (ub counts)).imp λh e=>?_
  injection e with _ e
  exact h e
 nodupS:=ub counts
 len:=by unfold iu;rw[avS]
end Go.Proofs.YtkghomgfocpgeaaGreatDoor

namespace Go.Proofs.YtkghomgfocpgeaaGreatDoor
variable{A S:Nat->Prop}{C:ao->Prop}{K:VWP}{M N:Eng.Mem}{P:Program}{PK PK2:PKT}{R:List Eng.Ent}{T1 U:TypeId}{W w w0:ao}{a colors way:Int}{above:List UInt8}{args ca fa:Array aq}{b cap d f fb i j jm m tb:Nat}{cb:Array Bool}{cs:List aq}{k':IntKind}{l near:List Nat}{pv v va:aq}{xo yo:Operand}{α:Type}{t0 t1 t2 t3:aq}{k0:Eng.KT}
section
namespace Srt
section
variable {α:Type}(d:α)(wt:α->Nat)
def sw (xs:List α)(i j:Nat):List α:=(xs.set i (xs.getD j d)).set j (xs.getD i d)
def lt (x y:α):Bool:=ai (wt x < wt y)
def NP (a:Nat):Nat->List α->List α
|0,xs=>xs
|j+1,xs=>if a < j+1∧lt wt (xs.getD (j+1) d) (xs.getD j d)=av then NP a j (sw d xs (j+1) j) else xs
def KV (a:Nat):Nat->Nat->List α->List α
|0,_,xs=>xs
|n+1,i,xs=>KV a n (i+1) (NP d wt a i xs)
def ins (xs:List α)(a b:Nat):List α:=KV d wt a (b - (a+1)) (a+1) xs
end
section
variable {α:Type}{d:α}{wt:α->Nat}
theorem agI {xs:List α}:(sw d xs i j).length=xs.length:=by unfold sw;rw[axM,axM]
theorem UG {a:Nat}:∀(j:Nat) (xs:List α),(NP d wt a j xs).length=xs.length
|0,_=>rfl
|j+1,xs=>by
  unfold NP;split
  ·rw[UG j,agI]
  ·rfl
theorem Uf {a:Nat}:∀(n i:Nat) (xs:List α),(KV d wt a n i xs).length=xs.length
|0,_,_=>rfl
|n+1,i,xs=>by unfold KV;rw[Uf n,UG]
theorem ZO {xs:List α}{a:Nat}:(ins d wt xs a b).length=xs.length:=Uf _ _ _
end
end Srt
end
end Go.Proofs.YtkghomgfocpgeaaGreatDoor


namespace Go.Proofs.YtkghomgfocpgeaaGreatDoor
variable{A S:Nat->Prop}{C:ao->Prop}{K:VWP}{M N:Eng.Mem}{P:Program}{PK PK2:PKT}{R:List Eng.Ent}{T1 U:TypeId}{W w w0:ao}{a colors way:Int}{above:List UInt8}{args ca fa:Array aq}{b cap d f fb i j jm m tb:Nat}{cb:Array Bool}{cs:List aq}{k':IntKind}{l near:List Nat}{pv v va:aq}{xo yo:Operand}{α:Type}{t0 t1 t2 t3:aq}{k0:Eng.KT}
section
open Eng
def cA(t6 t25 t26 t27 w)(a:JT)(K:KT):=nz f302 175 [a] [nh 23 [6,27]] [] (zg [6,25,26,27] [t6,t25,t26,t27]) w K
def bX(t3 t11 w)(a:JT)(K:KT):=nz f302 491 [a] [nh 7 [3,11]] [] (zg [3,11] [t3,t11]) w K
def bZ(t0 t3 t9 t10 t11 w)(a:JT)(K:KT):=nz f302 43 [a] [nh 7 [3,11],(16,[3],λs v j w f=>bX (vg v 0) (s 11) w (f 0) K),(23,[6,27],λs v j w f=>cA (vg v 0) (s 25) (s 26) (vg v 1) w (f 0) K)] [] (zg [0,3,9,10,11] [t0,t3,t9,t10,t11]) w K
def cI(t0 w)(K:KT):=nz f302 1 [] [(7,[3,11],λs v j w f=>bZ (s 0) (vg v 0) (s 9) (s 10) (vg v 1) w (f 0) K)] [] (zg [0] [t0]) w K
theorem dM:cI t0 w k0->Calls ah 302 #[t0] w k0:=cz [(8,[3])] [(3,[3,11]),(11,[6,27])] func302
def cF(t0 w)(K:KT):=nz f312 15 [] [] [] (zg [0] [t0]) w K
def cG(t0 t1 w)(K:KT):=nz f312 7 [] [(12,[0],λs v j w f=>cF (vg v 0) w K)] [] (zg [0,1] [t0,t1]) w K
def cJ(t0 t1 w)(K:KT):=nz f312 1 [] [(6,[],λs v j w f=>cG (s 0) (s 1) w K)] [] (zg [0,1] [t0,t1]) w K
theorem dU:cJ t0 t1 w k0->Calls ah 312 #[t0,t1] w k0:=cz [(3,[]),(6,[0])] [] func312
def bS(t0 t1 w)(K:KT):=nz f303 1 [] [] [] (zg [0,1] [t0,t1]) w K
theorem cU:bS t0 t1 w k0->Calls ah 303 #[t0,t1] w k0:=cw func303
def cL(c d e f b w)(H I:JT)(K:KT):=
 zp w (λF=>QDo ah F (gS .gtr 3 b d) λa=>GQ a av (λE=>E e) λg=>GQ a av (λE=>E c) λh=>GQ a av (λE=>E b) λi=>GQ a av (λE=>QDo ah F (mIA 319 h i) E) λj=>GQ a av (λE=>QDo ah F (aG 320 j) E) λk=>GQ a av (λE=>E c) λl=>GQ a av (λE=>E b) λm=>GQ a av (λE=>QDo ah F (gS .sub 3 m (iN 1)) E) λn=>GQ a av (λE=>QDo ah F (mIA 319 l n) E) λo=>GQ a av (λE=>QDo ah F (aG 320 o) E) λp=>GQ a av (λE=>QDo ah F (fV g #[k,p]) E) λq=>GQ a av (λE=>QDo ah F (gS .lss 3 q (iN 0)) E) λr=>QDo ah F (fK a r (.bool au)) λs=>
 ∀w,F w ->
 IfX s (zp w (λG=>PDo ah (gS .sub 3 b (iN 1)) λt=>QDo ah G (gS .sub 3 b (iN 1)) λu=>QDo ah G (mIA 319 c u) λv=>QDo ah G (aG 320 v) λx=>QDo ah G (mIA 319 c b) λy=>QDo ah G (aG 320 y) λz=>QDo ah G (mIA 319 c b) λA=>
 ∀w,G w ->
 DoX ah (aV 320 A x) w (ay 3 (pk K)) λ_ w=>DoX ah (mIA 319 c t) w (ay 3 (pk K)) λB w=>DoX ah (aV 320 B z) w (ay 3 (pk K)) λ_ w=>bnx .sub 3 b (iN 1) w K λC w=>I [C] w)) (bnx .add 3 f (iN 1) w K λD w=>H [D] w))
def cK(t0 t1 t2 t3 t8 w)(a:JT)(K:KT):=nz f317 5 [a] [nh 3 [8],(9,[9],λs v j w f=>cL (s 0) (s 1) (s 3) (s 8) (vg v 0) w (f 1) (f 0) K)] [] (zg [0,1,2,3,8] [t0,t1,t2,t3,t8]) w K
def cN(t0 t1 t2 t3 w)(K:KT):=nz f317 1 [] [(3,[8],λs v j w f=>cK (s 0) (s 1) (s 2) (s 3) (vg v 0) w (f 0) K)] [] (zg [0,1,2,3] [t0,t1,t2,t3]) w K
theorem eA:cN t0 t1 t2 t3 w k0->Calls ah 317 #[t0,t1,t2,t3] w k0:=cz [] [(1,[8]),(4,[9])] func317
def fB(t6 w)(a:JT)(K:KT):=nz f313 1007 [a] [nh 15 [6]] [] (zg [6] [t6]) w K
def fE(t0 t1 t2 t6 t7 t8 w)(a b:JT)(K:KT):=nz f313 623 [a,b] [nh 15 [6],nh 19 [7,8],(32,[],λs v j w f=>fB (s 6) w (f 0) K)] [] (zg [0,1,2,6,7,8] [t0,t1,t2,t6,t7,t8]) w K
def cX(t0 t1 t2 t6 w)(a:JT)(K:KT):=nz f313 47 [a] [nh 15 [6],(19,[7,8],λs v j w f=>fE (s 0) (s 1) (s 2) (s 6) (vg v 0) (vg v 1) w (f 1) (f 0) K)] [] (zg [0,1,2,6] [t0,t1,t2,t6]) w K
def cV(t0 t1 t2 t6 t7 t8 w)(a:JT)(K:KT):=nz f313 19 [a] [nh 5 [7,8],(15,[6],λs v j w f=>cX (s 0) (s 1) (s 2) (vg v 0) w (f 0) K)] [] (zg [0,1,2,6,7,8] [t0,t1,t2,t6,t7,t8]) w K
def dC(t0 t1 t2 w)(K:KT):=nz f313 1 [] [(5,[7,8],λs v j w f=>cV (s 0) (s 1) (s 2) (s 6) (vg v 0) (vg v 1) w (f 0) K)] [] (zg [0,1,2] [t0,t1,t2]) w K
theorem eY:dC t0 t1 t2 w k0->Calls ah 313 #[t0,t1,t2] w k0:=cz [(16,[])] [(2,[7,8]),(7,[6]),(9,[7,8])] func313
end
section
open Eng Go.RowKit
theorem Eng.ajP {K:aq->Prop}(hp:cD P f=av)(v:aq)(h:∀w,C w->Ret P f (fa++args++ca) w (λv' w'=>v'=v∧C w'))(k:K v):QDo P C (fV (.func (.func f) fa ca) args) K:=
 ⟨v,λw hw=>by
  have e:(fV (.func (.func f) fa ca) args).run P w=.ok (.enter f (fa++args++ca)) w:=by
   unfold fV;simp only[Deferred.ofValue,invoke,bind,pure,Sem.bind];exact iF hp _ _
  rw[e];exact⟨rfl,Calls.mono (h w hw) λ_ _ ⟨_,he,a,b⟩=>⟨by rw[he,a],b⟩⟩,k⟩
abbrev Pc:=aq×Cn
def pd:Pc:=(undef,.leaf 0 0)
def pcW (ps:List Pc):List Value:=ps.map (·.1)
abbrev pcE (v:aq)(ps:List Pc):Ent:=.urow 320 1 v ps.length (pcW ps)
def pw (x:Pc):Nat:=x.2.wt
def cmpI (a b:Nat):Int:=if a < b then -1 else if b < a then 1 else 0
theorem aiX (a b:Nat):ai (cmpI a b < 0)=ai (a < b):=by
 unfold cmpI;split
 ·rename_i h;simp[h]
 ·rename_i h;split<;>simp[h]
structure CmpOk (M:Mem) (cv:aq) (ok:Pc->Prop):Prop where
 ptr:∀x,ok x->x.1.oneCell'=av∧x.1.cells=#[x.1]
 run:∃f fa ca,cv=.func (.func f) fa ca∧cD ah f=av∧∀W x y,M.has W->ok x->ok y->Ret ah f (fa++#[x.1,y.1]++ca) W (λv w'=>v=ad (cmpI (pw x) (pw y))∧Below W.heap.size W w')
theorem Rm:dP ah 320=true:=krx
theorem H9:(Tryz.prog.info? 320).map (·.size)=ax 1:=krx
theorem vd {d:α}{xs:List α}(hi:i < xs.length)(a:j < xs.length){x:α}(h:x∈Srt.sw d xs i j):x∈xs:=by
 unfold Srt.sw at h;rcases aAY h with h|h
 ·rcases aAY h with h|h
  ·exact h
  ·rw[h,auZ,auX a];exact avD a
 ·rw[h,auZ,auX hi];exact avD hi
theorem Gu {ps:List Pc}(hi:i < ps.length):ps.getD i pd∈ps:=by
 rw[auZ,auX hi];exact avD hi
theorem Xu {ps:List Pc}(hi:i < ps.length):(pcW ps)[i]?=ax (ps.getD i pd).1:=by
 unfold pcW;rw[azP,auZ,auX hi];rfl
theorem Wu {g n:Nat}(hi:i < n)(W:ao):(mIA 319 (cW g 0 n cap) (ad (i:Int))).run ah W=.ok (.value (af g i)) W:=by
 have:=cR (P:=ah) (T:=319) (b:=g) (off:=0) (cap:=cap) (n:=n) (k:=.i64) (i:=(i:Int)) (w:=W) axD H9 om om
 rwa [auW,avQ,avC] at this
theorem adP {g n:Nat}{ps:List Pc}(h:(pcE (cW g 0 n cap) ps).is W)(hi:i < ps.length):(aG 320 (af g i)).run ah W=.ok (.value (ps.getD i pd).1) W:=by
 obtain⟨k,c,d,e,j⟩:=bQ (Sl.urow h) om
 injection e with b l m
 injection b with b
 have f:=congrArg Addr.block b;have a:=congrArg Addr.off b;dsimp only at f a;subst f;subst a;have:=j i _ (Xu hi);rw[avC] at this;exact aB Rm this
section
variable {w:ao}{PK PK2 PK3:PKT}{K:VWP}{S:Nat->Prop}{w0:ao}{L T:List Ent}
theorem Wz {ps:List Pc}{x:Pc}(hi:i < ps.length):(pcW ps).take i++[x.1]++(pcW ps).drop (i+[x.1].length)=pcW (ps.set i x):=by
 unfold pcW;rw[aAb,aBs,auP (by simpa using hi)];simp
theorem o_sw {g:Nat}{ps:List Pc}{N:ao->Prop}{cv:aq}{ok:Pc->Prop}(f:CmpOk M cv ok)(a:dQ S w0 w (pcE (cW g 0 ps.length cap) ps::T))(b:∀x∈ps,ok x)(hi:i < ps.length)(c:j < ps.length)
  (k:∀W,dQ S w0 W (pcE (cW g 0 ps.length cap) (Srt.sw pd ps i j)::T)->N W) :
  DoX ah (aV 320 (af g i) (ps.getD j pd).1) w PK λ_ w=>DoX ah (mIA 319 (cW g 0 ps.length cap) (ad (j:Int))) w PK2 λt w=>DoX ah (aV 320 t (ps.getD i pd).1) w PK3 λ_ w=>N w:=by
 obtain⟨l,m⟩:=f.ptr _ (b _ (Gu hi));obtain⟨n,o⟩:=f.ptr _ (b _ (Gu c));refine D4 (sz:=1) (new:=[(ps.getD j pd).1]) 0 a rfl (by rw[o]) H9 (λu hu=>by rw[avV.1 hu];exact n) (by simp;omega) λh a=>?_;have a:dQ S w0 h (.urow 320 1 (cW g 0 (ps.set i (ps.getD j pd)).length cap) (ps.set i (ps.getD j pd)).length (pcW (ps.set i (ps.getD j pd)))::T):=by
  rw[<-Wz hi,axM];exact a
 have d:j < (ps.set i (ps.getD j pd)).length:=by rw[axM];exact c
 refine aC (Wu c h) |>.mpr ?_;refine D4 (sz:=1) (new:=[(ps.getD i pd).1]) 0 a rfl (by rw[m]) H9 (λu hu=>by rw[avV.1 hu];exact l) (by simp;omega) λp a=>?_;refine k p ?_;unfold Srt.sw pcE;rw[<-Wz d];have e:((ps.set i (ps.getD j pd)).set j (ps.getD i pd)).length=(ps.set i (ps.getD j pd)).length:=axM;rw[e];have q:(ps.set i (ps.getD j pd)).length=ps.length:=axM;rw[q] at a ⊢;exact a
end
section
variable {w:ao}{PK PK2 PK3:PKT}{K:VWP}{S:Nat->Prop}{w0:ao}{L T:List Ent}
theorem aqK {g a N:Nat}{ps:List Pc}{cv:aq}{ok:Pc->Prop}(A:CmpOk M cv ok)(hm:T[jm]?=ax (.mem M))(C:ps.length=N)(d:dQ S w0 w (pcE (cW g 0 N cap) ps::T))(s:∀x∈ps,ok x)(U:b<=N)(V:a<=N)(X:N<=1000000000)
  (k:∀W,(∀x∈Srt.ins pd pw ps a b,ok x)->dQ S w0 W (pcE (cW g 0 N cap) (Srt.ins pd pw ps a b)::T)->K (.tuple #[]) W) :
  eN ah 317 #[cW g 0 N cap,ad (a:Int),ad (b:Int),cv] w PK K:=by
 unfold Srt.ins at k;generalize D:Srt.KV pd pw a (b - (a+1)) (a+1) ps=R at k;refine eR (eA (k0:=zy λv W=>v=.tuple #[]∧(∀x∈R,ok x)∧dQ S w0 W (pcE (cW g 0 N cap) R::T)) ?_) (λe W ⟨v,he,E,F,d⟩=>by subst he;subst E;exact k W F d);unfold cN nz;obtain⟨Y,G,H,t,u,y⟩:=A.run;have z:∀{W:ao} {e:Ent},dQ S w0 W (e::T)->M.has W:=λd=>d.hasM (jm+1) (by rw[awH];exact hm);simp only[rs];rw[aA om om];refine loop (λvs W=>∃(i:Nat) (c:List Pc),vs=[ad (i:Int)]∧a+1<=i∧i<=max b (a+1)∧c.length=N∧(∀x∈c,ok x)∧Srt.KV pd pw a (b - i) i c=R∧dQ S w0 W (pcE (cW g 0 N cap) c::T)) (λvs _=>b - n0 vs) ⟨a+1,ps,rfl,om,om,C,s,D,d⟩ ?_;clear d;rintro vs I ⟨i,c,rfl,hi,J,n,f,l,d⟩ _;simp only[cK,gd,rs,nz];by_cases o:(i:Int) < (b:Int)
 ·simp only[o,auS,i_t];obtain⟨q,L⟩:∃q,b - i=q+1:=⟨b - i - 1,om⟩;rw[L] at l;unfold Srt.KV at l;refine loop (λvs W=>∃(j:Nat) (c:List Pc),vs=[ad (j:Int)]∧a<=j∧j<=i∧c.length=N∧(∀x∈c,ok x)∧Srt.KV pd pw a q (i+1) (Srt.NP pd pw a j c)=R∧dQ S w0 W (pcE (cW g 0 N cap) c::T)) (λvs _=>n0 vs) ⟨i,c,rfl,om,om,n,f,l,d⟩ ?_;clear d l f n;rintro vs w2 ⟨j,c,rfl,O,P,n,f,l,d⟩ _;simp only[cL,gd,iN,bnx];have stop:∀W,Srt.NP pd pw a j c=c->dQ S w0 W (pcE (cW g 0 N cap) c::T)->PZ (λvs W=>∃(i:Nat) (c:List Pc),vs=[ad (i:Int)]∧a+1<=i∧i<=max b (a+1)∧c.length=N∧(∀x∈c,ok x)∧Srt.KV pd pw a (b - i) i c=R∧dQ S w0 W (pcE (cW g 0 N cap) c::T)) (λvs _=>b - n0 vs) [ad (i:Int)] I [ad (IntKind.i64.wrap ((i:Int)+1))] W:=by
   intro W he d;rw[aA om om];rw[he] at l;refine aU ⟨i+1,c,rfl,om,om,n,f,?_,d⟩ (by simp[n0,RowKit.intOf];omega);rw[show b - (i+1)=q by omega];exact l
  refine dR (λW=>dQ S w0 W (pcE (cW g 0 N cap) c::T)) d.drew ?_;refine J6 ?_;by_cases B:a < j
  ·obtain⟨j,rfl⟩:∃p,j=p+1:=⟨j - 1,om⟩;rw[auR (show (a:Int) < ((j+1:Nat):Int) by omega)];simp only[gq];refine eZ _ (λW=>Wu om W) (kE _ (λW h=>adP (h.at_ 0 rfl) om) ?_);refine eZ _ (λ_=>Cj) ?_;rw[aA om om,show ((j+1:Nat):Int) - 1=(j:Int) by omega];refine eZ _ (λW=>Wu om W) (kE _ (λW h=>adP (h.at_ 0 rfl) om) ?_);subst t;refine ajP u (ad (cmpI (pw (c.getD (j+1) pd)) (pw (c.getD j pd)))) (λW h=>(y W _ _ (z h) (f _ (Gu om)) (f _ (Gu om))).mono λv w' r=>⟨r.1,h.grow r.2⟩) ?_;refine abF (H8 ?_);rw[aiX];intro w3 d;unfold Srt.NP at l stop;by_cases m:pw (c.getD (j+1) pd) < pw (c.getD j pd)
   ·rw[auP ⟨B,auR m⟩] at l;simp only[m,auS,i_t];refine dR (λW=>dQ S w0 W (pcE (cW g 0 N cap) c::T)) d.drew ?_;refine p_do _ (λ_=>Cj) ?_;rw[aA om om,show ((j+1:Nat):Int) - 1=(j:Int) by omega];refine eZ _ (λ_=>Cj) ?_;rw[aA om om,show ((j+1:Nat):Int) - 1=(j:Int) by omega];refine eZ _ (λW=>Wu om W) (kE _ (λW h=>adP (h.at_ 0 rfl) om) ?_);refine eZ _ (λW=>Wu om W) (kE _ (λW h=>adP (h.at_ 0 rfl) om) ?_);refine eZ _ (λW=>Wu om W) ?_;intro Z d;subst n;refine o_sw A d f om om λw5 d=>?_
    try simp only[rs]
    rw[aA om om,show ((j+1:Nat):Int) - 1=(j:Int) by omega];exact aU ⟨j,_,rfl,om,om,Srt.agI,λx Q=>f x (vd om om Q),l,d⟩ (by simp[n0,RowKit.intOf])
   ·simp only[m,auT,i_f,rs];exact stop w3 (auO λh=>m (avG h.2)) d
  ·rw[auQ (show ¬(a:Int) < (j:Int) by omega)];simp only[gq];refine B0 ?_;intro w3 d;simp only[i_f,rs];refine stop w3 ?_ d;cases j with
  |zero=>rfl
  |succ j=>
    unfold Srt.NP;rw[auO (λh=>B h.1)]
 ·simp only[o,auT,i_f];rw[show b - i=0 by omega] at l;unfold Srt.KV at l;subst l;exact xB ⟨rfl,f,d⟩
end
end
end Go.Proofs.YtkghomgfocpgeaaGreatDoor


namespace Go.Proofs.YtkghomgfocpgeaaGreatDoor
variable{A S:Nat->Prop}{C:ao->Prop}{K:VWP}{M N:Eng.Mem}{P:Program}{PK PK2:PKT}{R:List Eng.Ent}{T1 U:TypeId}{W w w0:ao}{a colors way:Int}{above:List UInt8}{args ca fa:Array aq}{b cap d f fb i j jm m tb:Nat}{cb:Array Bool}{cs:List aq}{k':IntKind}{l near:List Nat}{pv v va:aq}{xo yo:Operand}{α:Type}{t0 t1 t2 t3:aq}{k0:Eng.KT}
section
open Eng
def qT(t0 t1 t2 t8 w)(a:JT)(K:KT):=nz f256 175 [a] [nh 15 [8]] [] (zg [0,1,2,8] [t0,t1,t2,t8]) w K
def vP(t0 t1 t2 w)(K:KT):=nz f256 1 [] [(15,[8],λs v j w f=>qT (s 0) (s 1) (s 2) (vg v 0) w (f 0) K)] [] (zg [0,1,2] [t0,t1,t2]) w K
theorem CC:vP t0 t1 t2 w k0->Calls ah 256 #[t0,t1,t2] w k0:=cz [] [(7,[8])] func256
def pG(t0 t1 w)(K:KT):=nz f281 1 [] [] [] (zg [0,1] [t0,t1]) w K
theorem sP:pG t0 t1 w k0->Calls ah 281 #[t0,t1] w k0:=cw func281
def Bc(t9 t85 t86 t87 w)(a:JT)(K:KT):=nz f252 45055 [a] [nh 57 [87]] [] (zg [9,85,86,87] [t9,t85,t86,t87]) w K
def A3(t6 t9 t10 t72 t73 w)(a:JT)(K:KT):=nz f252 22527 [a] [nh 49 [10,73],(57,[87],λs v j w f=>Bc (s 9) (s 85) (s 86) (vg v 0) w (f 0) K)] [] (zg [6,9,10,72,73] [t6,t9,t10,t72,t73]) w K
def Ay(t1 t6 t9 w)(K:KT):=nz f252 511 [] [(49,[10,73],λs v j w f=>A3 (s 6) (s 9) (vg v 0) (s 72) (vg v 1) w (f 0) K)] [] (zg [1,6,9] [t1,t6,t9]) w K
def AA(t6 t24 w)(a:JT)(K:KT):=nz f252 1967 [a] [nh 15 [6,24]] [] (zg [6,24] [t6,t24]) w K
def AV(t0 t1 t6 t22 t23 t24 w)(a:JT)(K:KT):=nz f252 175 [a] [nh 15 [6,24],(26,[6],λs v j w f=>AA (vg v 0) (s 24) w (f 0) K),(38,[],λs v j w f=>Ay (s 1) (s 6) (s 9) w K)] [(18,8)] (zg [0,1,6,22,23,24] [t0,t1,t6,t22,t23,t24]) w K
def Fp(t0 t1 w)(K:KT):=nz f252 1 [] [(15,[6,24],λs v j w f=>AV (s 0) (s 1) (vg v 0) (s 22) (s 23) (vg v 1) w (f 0) K)] [] (zg [0,1] [t0,t1]) w K
theorem IQ:Fp t0 t1 w k0->Calls ah 252 #[t0,t1] w k0:=cz [(13,[6]),(19,[])] [(7,[6,24]),(24,[10,73]),(28,[87])] func252
def vE(t0 t1 w)(K:KT):=nz f282 1 [] [] [] (zg [0,1] [t0,t1]) w K
theorem CQ:vE t0 t1 w k0->Calls ah 282 #[t0,t1] w k0:=cw func282
def Ha(t0 t1 w)(K:KT):=nz f279 1 [] [] [] (zg [0,1] [t0,t1]) w K
theorem Kn:Ha t0 t1 w k0->Calls ah 279 #[t0,t1] w k0:=cw func279
def DA(t0 w)(K:KT):=nz f297 1 [] [] [] (zg [0] [t0]) w K
theorem GC:DA t0 w k0->Calls ah 297 #[t0] w k0:=cw func297
def Ez(b c a w)(E:JT)(K:KT):=
 bnx .add 3 a (iN 1) w K λd w=>lnx 319 b w K λe w=>bnx .lss 3 d e w K λf w=>IfX f (zp w (λD=>QDo ah D (mIA 319 b a) λg=>QDo ah D (aG 320 g) λh=>QDo ah D (GZ h) λi=>QDo ah D (mFA 322 i 0) λj=>QDo ah D (aG 3 j) λk=>QDo ah D (gS .add 3 a (iN 1)) λl=>QDo ah D (mIA 319 b l) λm=>QDo ah D (aG 320 m) λn=>QDo ah D (GZ n) λo=>QDo ah D (mFA 322 o 0) λp=>QDo ah D (aG 3 p) λq=>QDo ah D (gS .add 3 k q) λr=>QDo ah D (mIA 319 b a) λs=>QDo ah D (aG 320 s) λt=>QDo ah D (gS .add 3 a (iN 1)) λu=>QDo ah D (mIA 319 b u) λv=>QDo ah D (aG 320 v) λx=>QDo ah D (aN 322 #[(0,r),(2,t),(3,x)]) λy=>
 ∀w,D w ->
 DoX ah (AS 322 y) w (ay 9 (pk K)) λz w=>DoX ah (bJ 319 1 #[(0,z)]) w (ay 9 (pk K)) λA w=>DoX ah (mB .append #[319,319] 319 #[au,au] #[c,A]) w (ay 9 (pk K)) λB w=>bnx .add 3 a (iN 2) w K λC w=>E [B,C] w)) (K (.returned c) w)
def I8(t0 w)(K:KT):=nz f280 1 [] [(7,[3,4],λs v j w f=>Ez (s 0) (vg v 0) (vg v 1) w (f 0) K)] [] (zg [0] [t0]) w K
theorem MQ:I8 t0 w k0->Calls ah 280 #[t0] w k0:=cz [] [(3,[3,4])] func280
def eK(t0 t1 t2 w)(K:KT):=nz f296 1 [] [] [] (zg [0,1,2] [t0,t1,t2]) w K
theorem jP:eK t0 t1 t2 w k0->Calls ah 296 #[t0,t1,t2] w k0:=cw func296
def eB(t0 t1 t2 w)(K:KT):=nz f304 1 [] [] [(1,8)] (zg [0,1,2] [t0,t1,t2]) w K
theorem iP:eB t0 t1 t2 w k0->Calls ah 304 #[t0,t1,t2] w k0:=cw func304
end
section
open Eng Go.RowKit
def cnC (w s:Nat)(a b:aq):List Value:=[ad (w:Int),ad (s:Int),a,b]
abbrev cnE (c w s:Nat)(a b:aq):Ent:=.cells c (cnC w s a b) 322
theorem Xw:uM ah 322 0=ax 0:=krx
theorem amR:uM ah 322 1=ax 1:=krx
theorem Zb:uM ah 322 2=ax 2:=krx
theorem amZ:uM ah 322 3=ax 3:=krx
def F9 (A:Nat->Prop)(w:ao):aq->Cn->Prop
|v,.leaf wt s=>∃b,v=af b 0∧A b∧(cnE b wt s (.pointer aw) (.pointer aw)).is w
|v,.node x y=>∃b va a,v=af b 0∧A b∧(cnE b (x.wt+y.wt) 0 va a).is w∧F9 A w va x∧F9 A w a y
theorem TA (h:M.le N){T:TypeId}(a:M.A b)(k:(Ent.cells b cs T).is M.w):(Ent.cells b cs T).is N.w:=by
 show N.w.heap[b]?=_;rw[h.has b a];exact k
theorem F9.le {M N:Mem}(h:M.le N):∀{c:Cn} {v:aq},F9 M.A M.w v c->F9 N.A N.w v c
|.leaf wt s,v,⟨b,d,a,e⟩=>⟨b,d,h.A b a,TA h a e⟩
|.node x y,v,⟨b,va,f,d,a,e,g,i⟩=>⟨b,va,f,d,h.A b a,TA h a e,F9.le h g,F9.le h i⟩
theorem oJ (a:M.has W){T:TypeId}(c:M.A b)(k:(Ent.cells b cs T).is M.w):(Ent.cells b cs T).is W:=by
 show W.heap[b]?=_;rw[a b c];exact k
theorem F9.ptr {c:Cn}(h:F9 A w v c):∃b,v=af b 0∧A b:=by
 cases c with
|leaf wt s=>obtain⟨b,a,d,_⟩:=h;exact⟨b,a,d⟩
|node x y=>obtain⟨b,_,_,a,d,_⟩:=h;exact⟨b,a,d⟩
theorem F9.wt {M:Mem}{v:aq}{c:Cn}(h:F9 M.A M.w v c):∃b s va a,v=af b 0∧M.A b∧(cnE b c.wt s va a).is M.w:=by
 cases c with
|leaf wt s=>obtain⟨b,d,e,f⟩:=h;exact⟨b,s,_,_,d,e,f⟩
|node x y=>obtain⟨b,va,a,d,e,f,_⟩:=h;exact⟨b,0,va,a,d,e,f⟩
def okM (M:Mem)(x:Pc):Prop:=F9 M.A M.w x.1 x.2
theorem Q2 (a b:Nat)(w:ao):Ret ah 305 #[ad (a:Int),ad (b:Int)] w (λv w'=>v=ad (cmpI a b)∧w=w'):=by
 refine aL λK c=>Ei ?_;unfold wH nz;refine zq (NU a w) (zq (NU b w) ?_);unfold cmpI at c;simp only[rs];by_cases d:a < b
 ·simp only[show ai ((a:Int) < (b:Int))=av from auR om,i_t];rw[auP d] at c;exact c _ _ ⟨rfl,rfl⟩
 ·simp only[show ai ((a:Int) < (b:Int))=au from auQ om,i_f];rw[auO d] at c;by_cases e:b < a
  ·simp only[show ai ((b:Int) < (a:Int))=av from auR om,i_t];rw[auP e] at c;exact c _ _ ⟨rfl,rfl⟩
  ·simp only[show ai ((b:Int) < (a:Int))=au from auQ om,i_f];rw[auO e] at c;exact c _ _ ⟨rfl,rfl⟩
theorem MO {c:Cn}(a:M.has W)(h:F9 M.A M.w v c):Ret ah 297 #[v] W (λr w'=>r=ad (c.wt:Int)∧W=w'):=by
 refine aL λK d=>GC ?_;unfold DA nz;obtain⟨b,s,va,e,rfl,f,g⟩:=h.wt;rw[bD,aQ Xw];refine aC (aB aW (aJ (T:=322) (cs:=cnC c.wt s va e) (oJ a f g) (i:=0) rfl)) |>.mpr ?_;exact d _ _ ⟨rfl,rfl⟩
theorem Gl:cD ah 297=true:=krx
theorem Pa:cD ah 304=true:=krx
theorem atN:dP ah 337=true:=krx
def wtF:Value:=.func (.func 297) #[] #[]
abbrev fcE (b:Nat):Ent:=.cells b [wtF] 337
theorem Z2 {x y:Pc}(b:M.has W)(e:M.A fb)(f:(fcE fb).is M.w)(g:okM M x)(j:okM M y) :
  Ret ah 304 #[x.1,y.1,af fb 0] W (λv w'=>v=ad (cmpI (pw x) (pw y))∧Below W.heap.size W w'):=by
 refine aL λK k=>iP ?_;unfold eB nz;have d:∀{W:ao},M.has W->(aG 337 (af fb 0)).run ah W=.ok (.value wtF) W:=λb=>aB atN (aJ (T:=337) (cs:=[wtF]) (oJ b e f) (i:=0) rfl);have c:=Own.start W;refine dR (λV=>Own W V []) c.drew ?_;have a:∀{V:ao},Own W V []->M.has V:=λh=>Mem.Qs b h.below;refine kE _ (λV h=>d (a h)) ?_;refine ajP Gl (ad (pw x:Int)) (λV h=>(MO (a h) g).mono λv w' r=>⟨r.1,by rw[<-r.2];exact h⟩) ?_;refine kE _ (λV h=>d (a h)) ?_;refine ajP Gl (ad (pw y:Int)) (λV h=>(MO (a h) j).mono λv w' r=>⟨r.1,by rw[<-r.2];exact h⟩) ?_;refine fC (ad (cmpI (pw x) (pw y))) (λV h=>(Q2 (pw x) (pw y) V).mono λv w' r=>⟨r.1,by rw[<-r.2];exact h⟩) ?_;intro V l;exact k _ _ ⟨rfl,l.done⟩
theorem amA (c:M.A fb)(d:(fcE fb).is M.w):CmpOk M (.func (.func 304) #[] #[af fb 0]) (okM M) where
 ptr:=λx a=>by
  obtain⟨b,e,_⟩:=F9.ptr a;rw[e];exact⟨rfl,rfl⟩
 run:=⟨_,_,_,rfl,Pa,λW x y f a g=>Z2 f c d a g⟩
theorem OP:elB ah 320 1 8=true:=krx
theorem alR:dP ah 319=true:=krx
section
variable {w:ao}{PK:PKT}{K:VWP}{S:Nat->Prop}{w0:ao}{L T:List Ent}
theorem XO {ps:List Pc}(h:∀x∈ps,okM M x):∀u∈pcW ps,u.oneCell'=true:=by
 intro u hu;obtain⟨x,a,rfl⟩:=awD.1 hu;obtain⟨b,c,_⟩:=F9.ptr (h x a);rw[c];rfl
theorem Se (a b:List Pc):pcW (a++b)=pcW a++pcW b:=by simp[pcW]
theorem agV (o:dQ S w0 w L)(p:0 < m)(t:m<=1000000000)
  (k:∀b c w',m<=c->dQ S w0 w' (.urow 320 1 (cW b 0 0 c) 0 []::L)->K (cW b 0 m c) w') :
  DoX ah (mB .append #[319,3] 319 cb #[.slice aw 0 0,ad (m:Int)]) w PK K:=by
 obtain⟨i,z,hi,q,r,f,n⟩:=kL OP;have a:(Builtin.firstCells i.size 0 (.slice aw 0 0)).run ah w.drew=.ok ([]:List aq).toArray w.drew:=by
  simp[Builtin.firstCells]
 have g:=grownCap_ge w (0+m) 0 320;have hle:=grownCap_le_maxLen w (0+m) 0 320 (by simp only[maxLen];omega);have s:=Lib.run_append_grow_zeros (P:=ah) w 319 3 319 320 i z .i64 .i64 axD awM hi q aw 0 0 [] a m p om om om (by
   rw[f];omega) (by rw[f];exact growslice_fits om om)
 have h:∀x,(Builtin.zeroCells z.cells x).toList.length=x*1:=by intro x;simp[Builtin.zeroCells,n]
 obtain⟨d,j⟩:∃d,d=(Builtin.zeroCells z.cells m).toList++(Builtin.zeroCells z.cells (grownCap w (0+m) 0 320 - (0+m))).toList:=⟨_,rfl⟩;have hlen:d.length=grownCap w (0+m) 0 320:=by
  rw[j,auU,h,h];omega
 have key:=(o.drew).alloc d 320;have e:d.toArray=([]:List aq).toArray++Builtin.zeroCells z.cells m++Builtin.zeroCells z.cells (grownCap w (0+m) 0 320 - (0+m)):=by
  rw[j];simp
 have l:(mB .append #[319,3] 319 cb #[.slice aw 0 0,ad (m:Int)]).run ah w=.ok (.value (cW w.heap.size 0 (0+m) (grownCap w (0+m) 0 320))) (w.drew.alloc (.cells d.toArray 320)):=by
  rw[e];simp[mB,builtin,s]
 have hu:=key.toU 1 0 (grownCap w (0+m) 0 320) om om (by simp only[maxLen] at hle;exact hle);rw[ayU,ayJ] at hu;rw[avC] at l hu g;exact yO l (k _ _ _ g hu)
theorem alT:(Tryz.prog.info? 319).map (·.size)=ax 1:=krx
theorem alW (d:dQ S w0 w L)(g:0 < m)(h:m<=1000000000)(k:∀v W,dQ S w0 W (.urow 320 1 v 0 []::L)->K v W):eN ah 312 #[.slice aw 0 0,ad (m:Int)] w PK K:=by
 refine eR (dU (k0:=zy λv W=>dQ S w0 W (.urow 320 1 v 0 []::L)) ?_) (λe W ⟨v,he,d⟩=>by subst he;exact k v W d);unfold cJ nz;refine join λJ i=>?_;simp only[rs,show ai ((m:Int) < 0)=au from auQ om,i_f];refine i _ _ λ_=>?_;unfold cG nz;refine join λl f=>?_;rw[TF axD,bP axD];simp only[rs];have j:IntKind.i64.wrap (((0:Nat):Int) - ((0:Nat):Int))=0:=aA om om;rw[j];rw[aA om om];simp only[show ai ((0:Int) < (m:Int) - 0)=av from auR om,i_t];rw[TF axD,Int.sub_zero];have es:∀{PK:PKT} {K:VWP},DoX ah (cY 319 (.slice aw 0 0) aw (ax (ad ((0:Nat):Int))) aw) w PK K=K (.slice aw 0 0) w:=aC krx;rw[es];refine agV d g h λb c w2 n d=>?_;rw[bP axD];refine aC (iY axD H9 om om) |>.mpr ?_;refine f _ _ λ_=>?_;simp only[cF,gd,nz];have e:zx (ax ⟨b,0,aw⟩) 0 c 1=ax ⟨b,0,aw⟩:=Jz (a:=⟨b,0,aw⟩);rw[e];exact xB d
theorem acF {lb:Nat}{g:aq}{a c:List Pc}(hm:T[jm]?=ax (.mem M))(d:dQ S w0 w (.cells lb [va,g] 319::T))(H:SlA M.A M.w va 1 a.length (pcW a))(I:SlA M.A M.w g 1 c.length (pcW c))
  (z:∀x∈a,okM M x) (B:∀x∈c,okM M x) (O:0 < a.length) (h:a.length<=100000000) (p:c.length<=100000000)
  (k:∀v W,dQ S w0 W (pcE v (a++c)::.cells lb [va,g] 319::T)->K v W) :
  eN ah 302 #[cW lb 0 2 2] w PK K:=by
 refine eR (dM (k0:=zy λv W=>dQ S w0 W (pcE v (a++c)::.cells lb [va,g] 319::T)) ?_) (λe W ⟨v,he,d⟩=>by subst he;exact k v W d);unfold cI nz;rw[bP aBn];have C:∀{W:ao} {e:Ent},dQ S w0 W (e::T)->M.has W:=λd=>d.hasM (jm+1) (by rw[awH];exact hm);have D:∀{W:ao} {e e':Ent},dQ S w0 W (e::e'::T)->M.has W:=λd=>d.hasM (jm+2) (by rw[awH,awH];exact hm);have q:∀{i:Nat} (W:ao),i < 2->(mIA 351 (cW lb 0 2 2) (ad (i:Int))).run ah W=.ok (.value (af lb i)) W:=λ{i} W hi=>by
  have:=cR (P:=ah) (T:=351) (b:=lb) (off:=0) (cap:=2) (n:=2) (k:=.i64) (i:=(i:Int)) (w:=W) aBn alT om om
  rwa [auW,avQ,avC] at this
 have r:∀{i:Nat} {W:ao},i < 2->M.has W->Sl W ([va,g].getD i undef) 1 ([a,c].getD i []).length (pcW ([a,c].getD i [])):=λ{i W} hi E=>by
  rcases (by omega:i=0∨i=1) with rfl|rfl
  ·exact H.now E
  ·exact I.now E
 have s:∀{i:Nat},i < 2->[va,g][i]?=ax ([va,g].getD i undef):=λ{i} hi=>by
  rcases (by omega:i=0∨i=1) with rfl|rfl<;>rfl
 refine loop (λvs W=>∃i sz:Nat,vs=[ad (sz:Int),ad (i:Int)]∧i<=2∧sz=(([a,c].take i).flatten).length∧dQ S w0 W (.cells lb [va,g] 319::T)) (λvs _=>2 - n1 vs) ⟨0,0,rfl,om,rfl,d⟩ ?_;clear d;rintro vs L ⟨i,sz,rfl,hi,j,d⟩ _;simp only[bZ,gd,rs,nz];by_cases t:(i:Int) < ((2:Nat):Int)
 ·simp only[t,auS,i_t];have f:i < 2:=om
  refine join λJ N=>?_;refine aC (q L f) |>.mpr (aC (aB alR (d.cell 0 rfl i (s f))) |>.mpr ?_);rw[aS axD (r f (C d))];have hle:([a,c].getD i []).length<=100000000:=by
   rcases (by omega:i=0∨i=1) with rfl|rfl
   ·exact h
   ·exact p
  have F:sz<=100000000:=by
   rw[j];rcases (by omega:i=0∨i=1) with rfl|rfl
   ·simp
   ·simpa using h
  have m:sz+([a,c].getD i []).length=(([a,c].take (i+1)).flatten).length:=by
   rw[j];rcases (by omega:i=0∨i=1) with rfl|rfl<;>simp
  simp only[rs];rw[aA om om];simp only[show ai ((sz:Int)+((([a,c].getD i []).length:Nat):Int) < 0)=au from auQ om,i_f];refine N _ _ λ_=>?_;simp only[bX,gd,rs,nz];rw[aA om om];exact aU ⟨i+1,sz+([a,c].getD i []).length,by congr 2,om,m,d⟩ (by simp[n1,RowKit.intOf];omega)
 ·simp only[t,auT,i_f];have o:i=2:=om
  subst o;have j:sz=a.length+c.length:=by rw[j];simp
  refine alW d om om λv0 w2 d=>?_;rw[bP aBn];refine loop (λvs W=>∃(i:Nat) (v:aq),vs=[v,ad (i:Int)]∧i<=2∧dQ S w0 W (pcE v (([a,c].take i).flatten)::.cells lb [va,g] 319::T)) (λvs _=>2 - n1 vs) ⟨0,v0,rfl,om,d⟩ ?_;clear d;rintro vs w3 ⟨i,v,rfl,hi,d⟩ _;simp only[cA,gd,rs,nz];by_cases l:(i:Int) < ((2:Nat):Int)
  ·simp only[l,auS,i_t];have f:i < 2:=om
   refine aC (q w3 f) |>.mpr (aC (aB alR (d.cell 1 rfl i (s f))) |>.mpr ?_);have hle:([a,c].getD i []).length<=100000000:=by
    rcases (by omega:i=0∨i=1) with rfl|rfl
    ·exact h
    ·exact p
   have G:(([a,c].take i).flatten).length<=100000000:=by
    rcases (by omega:i=0∨i=1) with rfl|rfl
    ·simp
    ·simpa using h
   have y:∀u∈pcW ([a,c].getD i []),u.oneCell'=true:=by
    rcases (by omega:i=0∨i=1) with rfl|rfl
    ·exact XO z
    ·exact XO B
   have m:([a,c].take (i+1)).flatten=([a,c].take i).flatten++[a,c].getD i []:=by
    rcases (by omega:i=0∨i=1) with rfl|rfl<;>simp
   refine bN 0 axD OP dc d rfl (r f (D d)) y om om λv' Q d=>?_
   try simp only[rs]
   rw[aA om om];refine aU ⟨i+1,v',by congr 2,om,?_⟩ (by simp[n1,RowKit.intOf];omega);rw[m];unfold pcE;rw[Se,auU];exact d
  ·simp only[l,auT,i_f];have o:i=2:=om
   subst o;have e:([a,c].take 2).flatten=a++c:=sm
   rw[e] at d;exact xB d
end
theorem okM.le {M N:Mem}(h:M.le N){x:Pc}(k:okM M x):okM N x:=F9.le h k
theorem pcAt {ps:List Pc}(a:SlA M.A M.w v 1 ps.length (pcW ps))(hi:i < ps.length) :
  ∃p,(∀W,(mIA 319 v (ad (i:Int))).run ah W=.ok (.value (.pointer (ax p))) W)∧∀W,M.has W->(aG 320 (.pointer (ax p))).run ah W=.ok (.value ps[i].1) W:=by
 obtain⟨b,off,cap,rfl,_⟩:=bQ a.1 om;refine⟨⟨b,off+i,aw⟩,λW=>?_,λW e=>?_⟩
 ·have:=cR (P:=ah) (T:=319) (b:=b) (off:=off) (cap:=cap) (n:=ps.length) (k:=.i64) (i:=(i:Int)) (w:=W) axD H9 om om;rw[auW,avQ] at this;exact this
 ·obtain⟨g,c,d,he,f⟩:=bQ (a.now e) om;cases he;refine aB Rm (f i _ ?_);rw[Xu hi,auZ,auX hi];rfl
theorem Vv (ps:List Pc)(v:aq)(M:Mem)(w:ao)(m:M.has w)(G:SlA M.A M.w v 1 ps.length (pcW ps))(n:∀x∈ps,okM M x)(hl:ps.length<=1000000)(o:∀x∈ps,pw x<=1000000000000000) :
  lA ah 280 #[v] M w (λr N=>∃c:List Pc,c.map (·.2)=Cn.bV (ps.map (·.2))∧(∀x∈c,okM N x)∧r.oneCell'=av∧SlA N.A N.w r 1 c.length (pcW c)):=by
 refine aO m λK hK=>MQ ?_;unfold I8 nz;have a:dQ M.A w w [.mem M]:=dQ.memS m;have a:dQ M.A w w [.urow 320 1 dY 0 [],.mem M]:=dQ.nilU (L:=[.mem M]) a _ _;refine loop (λvs W=>∃(i:Nat) (v':aq) (c:List Pc) (N:Mem),vs=[v',ad (i:Int)]∧i<=ps.length+1∧M.le N∧c.length=i / 2∧i % 2=0∧c.map (·.2)++Cn.bV ((ps.drop i).map (·.2))=Cn.bV (ps.map (·.2))∧(∀x∈c,okM N x)∧dQ M.A w W [pcE v' c,.mem N]) (λvs _=>ps.length+2 - n1 vs) ⟨0,dY,[],M,rfl,om,M.le_refl,rfl,rfl,rfl,(λx O=>by cases O),a⟩ ?_;clear a;rintro vs w1 ⟨i,v',c,N,rfl,hi,hle,b7,b8,P,p,a⟩ _;simp only[Ez,gd,rs,iN,bnx,lnx];rw[aA om om,aS axD (G.now (Mem.QO hle (a.hasM 1 rfl)))];simp only[rs];by_cases q:(i:Int)+1 < (ps.length:Int)
 ·simp only[q,auS,i_t];have b9:i+1 < ps.length:=om
  have c0:=λ{j:Nat} (hj:j < ps.length)=>pcAt G hj;have d:∀{V:ao},dQ M.A w V [pcE v' c,.mem N]->M.has V:=λh=>Mem.QO hle (h.hasM 1 rfl);obtain⟨p0,s,e⟩:=pcAt G (i:=i) om;obtain⟨p1,z,f⟩:=pcAt G (i:=i+1) om;have g:=n _ (avD (show i < ps.length by omega));have k:=n _ (avD (show i+1 < ps.length by omega));have B:=o _ (avD (show i < ps.length by omega));have C:=o _ (avD (show i+1 < ps.length by omega));have l:ps.drop i=ps[i]::ps[i+1]::ps.drop (i+2):=by
   rw[avW (show i < ps.length by omega),avW (show i+1 < ps.length by omega)]
  generalize ps[i]=x at e g B l;generalize ps[i+1]=y at f k C l;have D:=g.le hle;have E:=k.le hle;obtain⟨H,s0,Q,R,S,U,X⟩:=F9.wt g;obtain⟨I,s1,Y,Z,e1,a1,a6⟩:=F9.wt k;have l0:∀{V:ao},M.has V->(aG 3 (af H (0+0))).run ah V=.ok (.value (ad (x.2.wt:Int))) V:=λm=>aB aW (aJ (T:=322) (cs:=cnC x.2.wt s0 Q R) (oJ m U X) (i:=0) rfl);have l1:∀{V:ao},M.has V->(aG 3 (af I (0+0))).run ah V=.ok (.value (ad (y.2.wt:Int))) V:=λm=>aB aW (aJ (T:=322) (cs:=cnC y.2.wt s1 Y Z) (oJ m a1 a6) (i:=0) rfl);refine dR (λV=>dQ M.A w V [pcE v' c,.mem N]) a.drew ?_;refine eZ _ s (kE _ (λV h=>e V (d h)) ?_);rw[S];refine eZ _ (λ_=>cS) (eZ _ (λ_=>bE Xw) (kE _ (λV h=>l0 (d h)) ?_));refine iR ?_;rw[aA om om,show (i:Int)+1=((i+1:Nat):Int) by omega];refine eZ _ z (kE _ (λV h=>f V (d h)) ?_);rw[e1];refine eZ _ (λ_=>cS) (eZ _ (λ_=>bE Xw) (kE _ (λV h=>l1 (d h)) ?_));have b5:x.2.wt<=1000000000000000:=B;have b6:y.2.wt<=1000000000000000:=C;refine iR ?_;rw[aA om om,show (x.2.wt:Int)+(y.2.wt:Int)=((x.2.wt+y.2.wt:Nat):Int) by omega];refine eZ _ s (kE _ (λV h=>e V (d h)) ?_);refine iR ?_;rw[aA om om,show (i:Int)+1=((i+1:Nat):Int) by omega];refine eZ _ z (kE _ (λV h=>f V (d h)) ?_);rw[S,e1];refine eZ (.agg (cnC (x.2.wt+y.2.wt) 0 (af H 0) (af I 0)).toArray) (λ_=>by kernel_rfl) ?_;intro w2 a;refine bB (λb=>af b 0) (cnC (x.2.wt+y.2.wt) 0 (af H 0) (af I 0)) 322 (λ_=>by kernel_rfl) a λnb w3 a=>?_;have a7:=a.at_ 0 rfl;obtain⟨J,g1,a8,F,a⟩:=dQ.freeze (L:=[pcE v' c,.mem N]) a 1 rfl;have hz:okM J (af nb 0,.node x.2 y.2):=by
   refine⟨nb,af H 0,af I 0,rfl,F nb rfl,by rw[a8];exact a7,?_,?_⟩
   ·have:=D.le g1;unfold okM at this;rw[S] at this;exact this
   ·have:=E.le g1;unfold okM at this;rw[e1] at this;exact this
  have a:dQ M.A w w3 [pcE v' c,.mem J]:=a;refine bB (λb=>cW b 0 1 1) [af nb 0] 320 (λ_=>by kernel_rfl) a λsb w4 a=>?_;refine bN 1 axD OP dc a rfl (gX (a.at_ 0 rfl) dc rfl) (λu hu=>by rw[avV.1 hu];rfl) om om λv2 w5 a=>?_
  try simp only[rs]
  rw[aA om om];have a:dQ M.A w w5 [pcE v2 (c++[(af nb 0,.node x.2 y.2)]),.mem J]:=by
   unfold pcE;rw[Se,auU];exact a.tail
  refine aU ⟨i+2,v2,_,J,rfl,om,hle.trans g1,by rw[auU,awX];omega,om,?_,λu hu=>?_,a⟩ (by simp[n1,RowKit.intOf];omega)
  ·rw[<-P,l,avT,avO];rfl
  ·rcases avZ.1 hu with h|h
   ·exact (p u h).le g1
   ·rw[avV.1 h];exact hz
 ·simp only[q,auT,i_f];have b2:=cP (a.at_ 0 rfl);have b3:Cn.bV ((ps.drop i).map (·.2))=[]:=by
   have hd:(ps.drop i).length<=1:=by rw[avF];omega
   rcases hp:ps.drop i with _|⟨x,_|⟨y,t⟩⟩
   ·rfl
   ·rfl
   ·rw[hp] at hd;simp at hd
  rw[b3,awF] at P;obtain⟨N2,g2,b4,a⟩:=dQ.bH (L:=[.mem N]) a 0 rfl;exact hK _ _ N2 _ 0 a rfl (hle.trans g2) ⟨c,P,λx O=>(p x O).le g2,b2,b4⟩
end
section
open Eng
def QA(w)(K:KT):=nz f241 1 [] [] [] (zg [] []) w K
theorem QS:QA w k0->Calls ah 241 #[] w k0:=cw func241
def vQ(t0 t1 t2 w)(K:KT):=nz f293 3 [] [] [(2,22)] (zg [0,1,2] [t0,t1,t2]) w K
def AD(t0 t1 t2 w)(K:KT):=nz f293 1 [] [(4,[],λs v j w f=>vQ (s 0) (s 1) (s 2) w K)] [] (zg [0,1,2] [t0,t1,t2]) w K
theorem FX:AD t0 t1 t2 w k0->Calls ah 293 #[t0,t1,t2] w k0:=cz [(2,[])] [] func293
def vN(w)(K:KT):=nz f269 31 [] [] [] (zg [] []) w K
def uO(t0 t1 t3 t9 t38 w)(a:JT)(K:KT):=nz f269 1899 [a] [nh 9 [38]] [] (zg [0,1,3,9,38] [t0,t1,t3,t9,t38]) w K
def vJ(t0 t1 t2 t3 t37 t38 w)(a:JT)(K:KT):=nz f269 43 [a] [nh 9 [38],(16,[9],λs v j w f=>uO (s 0) (s 1) (s 3) (vg v 0) (s 38) w (f 0) K),(24,[],λs v j w f=>vN w K)] [] (zg [0,1,2,3,37,38] [t0,t1,t2,t3,t37,t38]) w K
def A9(t0 t1 t2 t3 w)(K:KT):=nz f269 1 [] [(9,[38],λs v j w f=>vJ (s 0) (s 1) (s 2) (s 3) (s 37) (vg v 0) w (f 0) K)] [] (zg [0,1,2,3] [t0,t1,t2,t3]) w K
theorem FF:A9 t0 t1 t2 t3 w k0->Calls ah 269 #[t0,t1,t2,t3] w k0:=cz [(8,[9]),(12,[])] [(4,[38])] func269
def AO(t0 t1 t2 w)(K:KT):=nz f242 1 [] [] [] (zg [0,1,2] [t0,t1,t2]) w K
theorem FA:AO t0 t1 t2 w k0->Calls ah 242 #[t0,t1,t2] w k0:=cw func242
def uZ(t0 w)(K:KT):=nz f243 1 [] [] [] (zg [0] [t0]) w K
theorem C9:uZ t0 w k0->Calls ah 243 #[t0] w k0:=cw func243
def vA(t0 t1 w)(K:KT):=nz f244 7 [] [] [] (zg [0,1] [t0,t1]) w K
def Be(t0 t1 w)(K:KT):=nz f244 1 [] [(6,[],λs v j w f=>vA (s 0) (s 1) w K)] [] (zg [0,1] [t0,t1]) w K
theorem FC:Be t0 t1 w k0->Calls ah 244 #[t0,t1] w k0:=cz [(3,[])] [] func244
def wY(t0 w)(K:KT):=nz f245 1 [] [] [] (zg [0] [t0]) w K
theorem Em:wY t0 w k0->Calls ah 245 #[t0] w k0:=cw func245
def jG(t0 w)(K:KT):=nz f270 1 [] [] [] (zg [0] [t0]) w K
theorem tH:jG t0 w k0->Calls ah 270 #[t0] w k0:=cw func270
end
section
open Eng Go.RowKit
theorem xe:∀(t:List Nat) (x:Nat),t.length < 8->ct (t++[x]) 0=ct t 0+x*2 ^ t.length
|[],x,_=>by simp[ct]
|[a],x,_=>by simp[ct];omega
|[a,b],x,_=>by simp[ct];omega
|[a,b,c],x,_=>by simp[ct];omega
|[a,b,c,d],x,_=>by simp[ct];omega
|[a,b,c,d,e],x,_=>by simp[ct];omega
|[a,b,c,d,e,f],x,_=>by simp[ct];omega
|[a,b,c,d,e,f,g],x,_=>by simp[ct];omega
|_::_::_::_::_::_::_::_::_,_,h=>by simp at h;omega
theorem xf:∀(t:List Nat),dz t->t.length < 8->ct t 0 < 2 ^ t.length
|[],_,_=>by simp[ct]
|[a],h,_=>by have:=h a sm;simp[ct];omega
|[a,b],h,_=>by have:=h a sm;have:=h b sm;simp[ct];omega
|[a,b,c],h,_=>by have:=h a sm;have:=h b sm;have:=h c sm;simp[ct];omega
|[a,b,c,d],h,_=>by have:=h a sm;have:=h b sm;have:=h c sm;have:=h d sm;simp[ct];omega
|[a,b,c,d,e],h,_=>by have:=h a sm;have:=h b sm;have:=h c sm;have:=h d sm;have:=h e sm;simp[ct];omega
|[a,b,c,d,e,f],h,_=>by have:=h a sm;have:=h b sm;have:=h c sm;have:=h d sm;have:=h e sm;have:=h f sm;simp[ct];omega
|[a,b,c,d,e,f,g],h,_=>by have:=h a sm;have:=h b sm;have:=h c sm;have:=h d sm;have:=h e sm;have:=h f sm;have:=h g sm;simp[ct];omega
|_::_::_::_::_::_::_::_::_,_,h=>by simp at h;omega
theorem ve (h:dz l){x:Nat}(p:x < 2):∃P c,c < 2 ^ (l.length % 8)∧(if l.length % 8=0 then az l++[0] else az l)=P++[UInt8.ofNat c]∧az (l++[x])=P++[UInt8.ofNat (c+x*2 ^ (l.length % 8))]:=by
 have f:l=l.take (8*(l.length / 8))++l.drop (8*(l.length / 8)):=(azL ..).symm;have e:(l.take (8*(l.length / 8))).length=8*(l.length / 8):=by rw[avA];omega
 have j:(l.drop (8*(l.length / 8))).length=l.length % 8:=by rw[avF];omega
 have d:dz (l.drop (8*(l.length / 8))):=λb o=>h b (ayR o);generalize l.take (8*(l.length / 8))=a at f e;generalize l.drop (8*(l.length / 8))=t at f j d;generalize l.length / 8=k at e;rw[<-j,f,avO,nw e,nw e];have m:t.length < 8:=om
 have g:=xf t d m;have n:az (t++[x])=[UInt8.ofNat (ct t 0+x*2 ^ t.length)]:=by
  rw[<-xe t x m];unfold az;rw[auU,awX,show (t.length+1+7) / 8=1 by omega];rfl
 by_cases i:t.length=0
 ·have:t=[]:=List.length_eq_zero_iff.1 i;subst this;refine⟨az a,0,dc,?_,?_⟩
  ·rw[auP i];simp[az]
  ·rw[n];simp[ct]
 ·refine⟨az a,ct t 0,g,?_,by rw[n]⟩;rw[auO i]
  congr 1
  unfold az;rw[show (t.length+7) / 8=1 by omega];rfl
theorem ud (l:List Nat):(az l).length<=l.length:=by rw[qf];omega
def wrC (way:Int)(n:Nat)(v:aq):List Value:=[ad way,ad ((n % 8:Nat):Int),v]
abbrev wrE (b:Nat)(way:Int)(n:Nat)(v:aq):Ent:=.cells b (wrC way n v) 304
abbrev Wr (b:Nat)(way:Int)(l:List Nat)(v:aq)(T:List Ent):List Ent:=wrE b way l.length v::iS v (az l)::T
theorem afK:uM ah 304 0=ax 0:=krx
theorem WM:uM ah 304 1=ax 2:=krx
section
variable {W:ao}{b n:Nat}{way:Int}{v:aq}
theorem ajD (h:(wrE b way n v).is W):(aG 3 (af b 0)).run ah W=.ok (.value (ad way)) W:=aB aW (aJ (T:=304) (cs:=wrC way n v) h (i:=0) rfl)
theorem ajJ (h:(wrE b way n v).is W):(aG 3 (af b (0+1))).run ah W=.ok (.value (ad ((n % 8:Nat):Int))) W:=aB aW (aJ (T:=304) (cs:=wrC way n v) h (i:=1) rfl)
theorem WZ (h:(wrE b way n v).is W):(aG 70 (af b (0+2))).run ah W=.ok (.value v) W:=aB MT (aJ (T:=304) (cs:=wrC way n v) h (i:=2) rfl)
theorem Wp (h:(wrE b way n v).is W):Ret ah 301 #[af b 0,ad 1] W (λv w'=>v=ad ((n % 8:Nat):Int)∧Below W.heap.size W w'):=by
 refine aL λK a=>rW ?_;unfold pF nz;simp only[rs,auS,bD];rw[xQ];refine aC (ajJ h) |>.mpr ?_;exact a _ _ ⟨rfl,(Own.start W).done⟩
theorem V2 (h:(wrE b way n v).is W)(hw:way=0∨way=1):Ret ah 292 #[af b 0,ad 1] W (λv w'=>v=.bool au∧Below W.heap.size W w'):=by
 refine aL λK a=>sG ?_;unfold oZ nz;have r:=ajD h;rw[bD,NJ];refine aC r |>.mpr ?_;rcases hw with rfl|rfl
 ·simp only[rs,ne_eq,not_true,auT,iO];exact a _ _ ⟨rfl,(Own.start W).done⟩
 ·simp only[rs,show ai ((1:Int)≠0)=av by decide,bD];rw[NJ];refine aC r |>.mpr ?_;simp only[rs,ne_eq,not_true,auT];exact a _ _ ⟨rfl,(Own.start W).done⟩
end
theorem ahE:∀a:Fin 256,∀k:Fin 8,a.val < 2 ^ k.val->bOr .u8 (a.val:Int) ((2 ^ k.val:Nat):Int)=((a.val+2 ^ k.val:Nat):Int):=by decide +kernel
theorem auC:∀a:Fin 256,bOr .u8 (a.val:Int) 0=(a.val:Int):=by decide +kernel
theorem or8 {c x k:Nat}(a:k < 8)(b:c < 2 ^ k)(d:x < 2):bOr .u8 (c:Int) ((x*2 ^ k:Nat):Int)=((c+x*2 ^ k:Nat):Int):=by
 have hp:2 ^ k<=2 ^ 7:=awC dc om;have e:(2:Nat) ^ 7=128:=rfl;rcases (by omega:x=0∨x=1) with rfl|rfl
 ·rw[ayU];exact auC ⟨c,om⟩
 ·rw[Nat.one_mul];exact ahE ⟨c,om⟩ ⟨k,a⟩ b
theorem OE :DoX ah (mEq .eql 264 xo yo (af b 0) (.pointer aw)) w PK K=K (.bool au) w:=aC krx
theorem ajV :DoX ah (mEq .neq 264 xo yo (af b 0) (.pointer aw)) w PK K=K (.bool av) w:=aC krx
section
variable {w:ao}{PK:PKT}{K:VWP}{S:Nat->Prop}{w0:ao}{L T:List Ent}
theorem LG {off:Nat}:DoX ah (mFA 304 (af b off) 0) w PK K=K (af b off) w:=aQ afK
theorem Qj {off:Nat}:DoX ah (mFA 304 (af b off) 1) w PK K=K (af b (off+2)) w:=aQ WM
theorem wr_v (a:dQ S w0 w L)(j:Nat){n:Nat}(hi:L[j]?=ax (wrE b way n v)):DoX ah (aG 70 (af b (0+2))) w PK K=K v w:=aH MT (a.cell j hi 2 rfl)
theorem wr_u (a:dQ S w0 w L)(j:Nat){n:Nat}(hi:L[j]?=ax (wrE b way n v)):DoX ah (aG 3 (af b (0+1))) w PK K=K (ad ((n % 8:Nat):Int)) w:=aH aW (a.cell j hi 1 rfl)
theorem Zc (a:dQ S w0 w T)(k:∀b W,dQ S w0 W (Wr b 0 [] dY T)->K (af b 0) W):eN ah 241 #[] w PK K:=by
 refine eR (QS (k0:=zy λv W=>∃b,v=af b 0∧dQ S w0 W (Wr b 0 [] dY T)) ?_) (λe W ⟨v,he,b,c,a⟩=>by subst he;subst c;exact k b W a);unfold QA nz;have e:∀W:ao,(aN 304 #[]).run ah W=.ok (.value (.agg (wrC 0 0 dY).toArray)) W:=λW=>by kernel_rfl
 refine aC (e w) |>.mpr ?_;have a:=a.nilU 5 1;refine bB (λb=>af b 0) (wrC 0 0 dY) 304 (λ_=>by kernel_rfl) a λb d a=>?_;exact xB ⟨b,rfl,a⟩
theorem akP {x:Nat}(a:dQ S w0 w (Wr b way l v T))(q:dz l)(y:x < 2)(V:l.length<=100000000000)
  (k:∀v' W,dQ S w0 W (Wr b way (l++[x]) v' T)->K (.tuple #[]) W):eN ah 293 #[af b 0,ad (x:Int),ad 1] w PK K:=by
 refine eR (FX (k0:=zy λv W=>v=.tuple #[]∧∃v',dQ S w0 W (Wr b way (l++[x]) v' T)) ?_) (λe W ⟨v,he,F,v',a⟩=>by subst he;subst F;exact k v' W a);unfold AD nz;obtain⟨P,c,G,f,z⟩:=ve q y;have H:=ud l;have I:2 ^ (l.length % 8)<=2 ^ 7:=awC dc om;have X:(2:Nat) ^ 7=128:=rfl;have L:x*2 ^ (l.length % 8)<=128:=by
  have:x*2 ^ (l.length % 8)<=1*2 ^ (l.length % 8):=awL _ om;omega
 have M:P.length<=100000000000:=by
  have:=congrArg List.length f;rw[auU,awX] at this;have Y:(if l.length % 8=0 then az l++[0] else az l).length<=(az l).length+1:=by
   split
   ·simp
   ·omega
  omega
 refine join λJ N=>?_;have fin:∀(W:ao) (v':aq),dQ S w0 W (wrE b way l.length v'::iS v' (P++[UInt8.ofNat c])::T)->J [] W:=by
  intro W v' a;refine N _ _ λ_=>?_;unfold vQ nz;have hlen:(P++[UInt8.ofNat c]).length=P.length+1:=sm
  obtain⟨g,cap,rfl⟩:=rM (a.at_ 1 rfl) om;rw[hlen] at a;refine dR (λW=>dQ S w0 W (wrE b way l.length (cW g 0 (P.length+1) cap)::iS (cW g 0 (P.length+1) cap) (P++[UInt8.ofNat c])::T)) a.drew ?_;refine eZ _ (λ_=>cS) (eZ _ (λ_=>bE WM) (kE _ (λW h=>WZ (h.at_ 0 rfl)) ?_));refine eZ _ (λ_=>cS) (eZ _ (λ_=>bE WM) (kE _ (λW h=>WZ (h.at_ 0 rfl)) ?_));refine eZ _ (λ_=>NB avE) (eZ _ (λ_=>Cj) ?_);rw[aA om om,show ((P.length+1:Nat):Int) - 1=(P.length:Int) by omega];have j:∀W:ao,(mIA 70 (cW g 0 (P.length+1) cap) (ad (P.length:Int))).run ah W=.ok (.value (af g P.length)) W:=λW=>by
   have:=cR (P:=ah) (T:=70) (b:=g) (off:=0) (cap:=cap) (n:=P.length+1) (k:=.i64) (i:=(P.length:Int)) (w:=W) avE (show _=ax 1 by kernel_rfl) om om
   rwa [auW,avQ,avC] at this
  refine eZ _ j ?_;have d:(aM (P++[UInt8.ofNat c]))[P.length]?=ax (.int .u8 (c:Int)):=by
   rw[gP om,List.getElem_append_right (auY _)];simp only[ayY,aAO,aA1];rw[axC om]
  refine kE (.int .u8 (c:Int)) (λW h=>?_) ?_
  ·have A:=dO (h.at_ 1 rfl);rw[hlen] at A;obtain⟨Z,B,C,e,O⟩:=bQ A om
   injection e with p e2 e3
   injection p with p
   have D:=congrArg Addr.block p;have m:=congrArg Addr.off p;dsimp only at D m;subst D;subst m;have:=O P.length _ d;rw[avC] at this;exact aB nU8l this
  refine eZ _ (λ_=>cS) (eZ _ (λ_=>bE afK) ?_);refine fC (ad ((l.length % 8:Nat):Int)) (λW h=>(Wp (h.at_ 0 rfl)).mono λv w' r=>⟨r.1,h.grow r.2⟩) ?_;refine eZ _ (λ_=>aiR om) ?_;rw[show min ((l.length % 8:Nat):Int).toNat IntKind.i64.bits=l.length % 8 by show min ((l.length % 8:Nat):Int).toNat 64=l.length % 8;omega];rw[show ((x:Nat):Int)*2 ^ (l.length % 8)=((x*2 ^ (l.length % 8):Nat):Int) by push_cast;rfl,aA om om];refine eZ _ (λW=>cU8 om) ?_;have Q:(((UInt8.ofNat (x*2 ^ (l.length % 8))).toNat:Nat):Int)=((x*2 ^ (l.length % 8):Nat):Int):=by rw[aA1,axC om]
  try rw[Q]
  refine eZ _ (λ_=>r_or) ?_;rw[or8 (ayE _ dc) G y];refine eZ _ j ?_;intro W2 a;refine D4 (sz:=1) (new:=[.int .u8 ((c+x*2 ^ (l.length % 8):Nat):Int)]) 1 a (by show ax (iS _ _)=ax _;unfold iS;rw[hlen]) rfl krx (λu hu=>by rw[avV.1 hu];rfl) sm λR a=>?_;have o:(aM (P++[UInt8.ofNat c])).take P.length++[.int .u8 ((c+x*2 ^ (l.length % 8):Nat):Int)]++(aM (P++[UInt8.ofNat c])).drop (P.length+[(.int .u8 ((c+x*2 ^ (l.length % 8):Nat):Int):aq)].length)=aM (az (l++[x])):=by
   rw[z];unfold aM;rw[avT,avT,axU sm,aAS sm,awF]
   congr 1
   simp only[awY,ayZ,aA1];rw[axC (show c+x*2 ^ (l.length % 8) < 2 ^ 8 by omega)]
  have a:dQ S w0 R (wrE b way l.length (cW g 0 (P.length+1) cap)::iS (cW g 0 (P.length+1) cap) (az (l++[x]))::T):=by
   unfold iS;rw[<-o,z,auU,awX];exact a
  rw[bD,LG,xQ,wr_u a 0 rfl];simp only[rs];rw[aA om om,Ep dc]
  try rw[bD]
  rw[LG,xQ];have U:(((l.length % 8:Nat):Int)+1).tmod 8=(((l.length+1) % 8:Nat):Int):=by
   rw[aAD om];omega
  rw[U];refine aK 0 a rfl krx rfl (by show 0+1 < 3;omega) λW4 a=>?_;refine xB ⟨rfl,cW g 0 (P.length+1) cap,?_⟩;unfold Wr wrE;rw[auU,awX];exact a
 rw[bD,LG,xQ,wr_u a 0 rfl];simp only[rs];by_cases E:((l.length % 8:Nat):Int)=0
 ·simp only[E,auS,i_t];rw[auP om] at f
  try rw[bD]
  rw[Qj,wr_v a 0 rfl];refine Nc 0 a λb8 w8 a=>?_;refine bN 2 avE G8 dc a rfl (gX (a.at_ 0 rfl) dc rfl) bU om om λv' w9 a=>?_;have s:v'.oneCell'=true:=cP (a.at_ 2 rfl)
  try rw[bD]
  rw[Qj];refine aK 1 a rfl krx s (by show 0+2 < 3;omega) λt a=>?_;refine fin t v' ?_;rw[<-f,eJ];exact a.tail
 ·simp only[E,auT,i_f];rw[auO om] at f;refine fin w v ?_;rw[<-f];exact a
theorem xg (v n:Nat):bf v (n+1)=bf v n++[v / 2 ^ n % 2]:=by
 unfold bf;rw[azM,avT];rfl
theorem amP {a:Nat}(h:a < 2 ^ 62):IS .i64 (a:Int) 1=((a % 2:Nat):Int):=by
 have b:(2:Nat) ^ 62=4611686018427387904:=rfl;unfold IS;show IntKind.wrap .i64 (((BitVec.ofInt 64 (a:Int) &&& BitVec.ofInt 64 ((1:Nat):Int)).toNat:Nat):Int)=_;rw[BitVec.ofInt_natCast,BitVec.ofInt_natCast,BitVec.toNat_and,BitVec.toNat_ofNat,BitVec.toNat_ofNat,axC om,axC om,Nat.and_one_is_mod];exact aA om om
theorem pX {x n:Nat}(a:dQ S w0 w (Wr b way l v T))(g:dz l)(hw:way=0∨way=1)(q:n<=24)(y:x < 2 ^ n)(z:l.length<=10000000000)
  (k:∀way' v' W,(way'=0∨way'=1)->dQ S w0 W (Wr b way' (l++bf x n) v' T)->K (ad 0) W):eN ah 242 #[af b 0,ad (x:Int),ad (n:Int)] w PK K:=by
 refine eR (FA (k0:=zy λv W=>v=ad 0∧∃way' v',(way'=0∨way'=1)∧dQ S w0 W (Wr b way' (l++bf x n) v' T)) ?_) (λe W ⟨v,he,h,way',v',c,a⟩=>by subst he;subst h;exact k way' v' W c a);unfold AO nz;have r:2 ^ n<=2 ^ 24:=awC dc q;have s:(2:Nat) ^ 24=16777216:=rfl;refine eR (FF (k0:=zy λv W=>v=ad 0∧∃way' v',(way'=0∨way'=1)∧dQ S w0 W (Wr b way' (l++bf x n) v' T)) ?_) (λe W ⟨v,he,h,way',v',c,a⟩=>by
  subst he;subst h;exact⟨_,rfl,rfl,way',v',c,a⟩)
 unfold A9 nz;rw[OE];have d:IntKind.i64.wrap ((1:Int)*2 ^ min ((n:Nat):Int).toNat IntKind.i64.bits)=((2 ^ n:Nat):Int):=by
  rw[show min ((n:Nat):Int).toNat IntKind.i64.bits=n by show min ((n:Nat):Int).toNat 64=n;omega,Int.one_mul,show (2:Int) ^ n=((2 ^ n:Nat):Int) by push_cast;rfl];exact aA om om
 simp only[rs,show ai ((n:Int) < 0)=au from auQ om,show ai ((24:Int) < (n:Int))=au from auQ om,show ai ((x:Int) < 0)=au from auQ om];rw[Bi om,d];simp only[rs,show ai (((2 ^ n:Nat):Int)<=(x:Int))=au from auQ om]
 try rw[bD]
 rw[LG];refine aI a (R:=λv=>v=.bool au) (V2 (a.at_ 0 rfl) hw) ?_;rintro _ w2 rfl a;simp only[rs];refine loop (λvs W=>∃(i:Nat) (v':aq),vs=[ad i]∧i<=n∧dQ S w0 W (Wr b way (l++bf x i) v' T)) (λvs _=>n - n0 vs) ⟨0,v,rfl,om,by show dQ S w0 w2 (Wr b way (l++[]) v T);rw[awF];exact a⟩ ?_;clear a;rintro vs t ⟨i,v',rfl,hi,a⟩ _;simp only[vJ,gd,rs,nz];by_cases f:(i:Int) < (n:Int)
 ·simp only[f,auS,i_t];refine join λJ j=>?_;simp only[show ai ((1:Int)=2)=au from rfl,i_f,rs];refine j _ _ λ_=>?_;simp only[uO,gd,nz];rw[F2 om,show min ((i:Nat):Int).toNat IntKind.i64.bits=i by show min ((i:Nat):Int).toNat 64=i;omega,Sd,Y4];have u:x / 2 ^ i<=x:=azF _ _;rw[amP om];refine akP a (dd g (ei _ _)) (ayE _ dc) (by rw[auU,eg];omega) λv2 o a=>?_;rw[avO,<-xg] at a;simp only[rs];rw[aA om om];exact aU ⟨i+1,v2,rfl,om,a⟩ (by simp[n0,RowKit.intOf];omega)
 ·simp only[f,auT,i_f];have m:i=n:=om
  subst m;refine join λJ j=>?_;have fin:∀W way',(way'=0∨way'=1)->dQ S w0 W (Wr b way' (l++bf x i) v' T)->J [] W:=by
   intro W way' c a;refine j _ _ λ_=>?_;simp only[vN,nz];exact xB ⟨rfl,way',v',c,a⟩
  by_cases p:(0:Int) < (i:Int)
  ·simp only[p,auS,i_t,rs,bD];rw[LG,NJ];refine aK 0 a rfl krx rfl (by show 0 < 3;omega) λo a=>?_;exact fin o 1 (.inr rfl) a
  ·simp only[p,auT,i_f,rs];exact fin t way hw a
theorem TE (a:dQ S w0 w (Wr b way l v T))
  (k:∀W,dQ S w0 W (Wr b 0 (fk l) v T)->K (.tuple #[]) W):eN ah 243 #[af b 0] w PK K:=by
 refine eR (C9 (k0:=zy λu W=>u=.tuple #[]∧dQ S w0 W (Wr b 0 (fk l) v T)) ?_) (λe W ⟨u,he,c,a⟩=>by subst he;subst c;exact k W a);unfold uZ nz;rw[ajV,i_t];have d:∀{PK:PKT} {K:VWP},DoX ah (aN 295 #[]) w PK K=K (.agg #[ad 0,ad 0]) w:=aC krx;rw[d,bD,LG];refine CP 0 a rfl (new:=[ad 0,ad 0]) szSd dc (by show 0+2<=3;omega) λw2 a=>?_;refine xB ⟨rfl,?_⟩;have e:wrC 0 (fk l).length v=[ad 0,ad 0,v]:=by
  unfold wrC;rw[qi,Nat.mul_mod_right];rfl
 unfold Wr wrE;rw[e,ym];exact a
theorem yq {k:Nat}(h:l.length=8*k)(s:List UInt8):az (l++gf s)=az l++s:=by
 have:=tw [] s;rw[awF] at this;rw[nw h,this];show _++(s++[])=_;rw[awF]
theorem apY {s:List UInt8}(a:dQ S w0 w (Wr b way l v T))(d:l.length=8*j)(m:j<=1000000000)(n:s.length<=1000000000)
  (k:∀v' W,dQ S w0 W (Wr b way (l++gf s) v' T)->K (.tuple #[]) W):eN ah 244 #[af b 0,ae s] w PK K:=by
 refine eR (FC (k0:=zy λu W=>u=.tuple #[]∧∃v',dQ S w0 W (Wr b way (l++gf s) v' T)) ?_) (λe W ⟨u,he,f,v',a⟩=>by subst he;subst f;exact k v' W a);unfold Be nz;rw[OE,i_f];have g:(az l).length=j:=by rw[qf];omega
 refine join λJ h=>?_;rw[bD,LG,xQ,wr_u a 0 rfl,show l.length % 8=0 by omega];simp only[rs,show ai ((0:Int) < ((0:Nat):Int))=au from rfl,i_f];refine h _ _ λ_=>?_;unfold vA nz;rw[bD,Qj,wr_v a 0 rfl];refine IG 1 avE auV G8 avN z8U a rfl om λv' o a=>?_;have c:v'.oneCell'=true:=cP (a.at_ 1 rfl)
 try rw[bD]
 rw[Qj];refine aK 0 a rfl krx c (by show 0+2 < 3;omega) λi a=>?_;refine xB ⟨rfl,v',?_⟩;unfold Wr wrE;rw[yq d,eJ];have e:wrC way (l++gf s).length v'=[ad way,ad ((l.length % 8:Nat):Int),v']:=by
  unfold wrC;rw[auU,qh];congr 3;omega
 rw[e];exact a
theorem aoW {off n c:Nat}:DoX ah (mEq .eql 70 xo yo (cW b off n c) (.slice aw 0 0)) w PK K=K (.bool au) w:=aC krx
theorem atL (a:dQ S w0 w L)(k:∀v w',dQ S w0 w' (.urow 5 1 v 0 []::L)->K v w'):DoX ah (bJ 70 0 #[]) w PK K:=
 bB (λb=>cW b 0 0 0) [] 5 (λ_=>by kernel_rfl) a λb c a=>k _ _ (a.toU 1 0 0 sm om om)
theorem SX (a:dQ S w0 w (Wr b way l v T))(h:0 < l.length)(i:l.length<=10000000000)
  (k:∀W,dQ S w0 W T->K (ae (az l)) W):eN ah 245 #[af b 0] w PK K:=by
 refine eR (Em (k0:=zy λu W=>u=ae (az l)∧dQ S w0 W T) ?_) (λe W ⟨u,he,c,a⟩=>by subst he;subst c;exact k W a);unfold wY nz;have d:=ud l;obtain⟨g,cap,rfl⟩:=rM (a.at_ 1 rfl) (by rw[qf];omega);rw[OE,i_f,bD,Qj,wr_v a 0 rfl];refine eR (tH (k0:=zy λu W=>dQ S w0 W (iS u (az l)::T)) ?_) (λe W ⟨u,he,a⟩=>?_)
 ·unfold jG nz;rw[aoW,i_f];refine atL a λv0 j a=>?_;refine bN 0 avE G8 dc a rfl (dO (a.at_ 2 rfl)) bU om om λv' f a=>?_;rw[avC,awW] at a;have a:dQ S w0 f ([iS v' (az l)]++([wrE b way l.length (cW g 0 (az l).length cap),iS (cW g 0 (az l).length cap) (az l)]++T)):=a;exact xB a.front.tail.tail
 ·subst he;refine aC (Qg avE avN auV (dO (a.at_ 0 rfl))) |>.mpr ?_;exact xB ⟨rfl,a.tail⟩
end
def TbW (A:Nat->Prop)(w:ao)(b:Nat)(lens:List Nat):Prop:=∃a c o,A b∧(tbE b a c (cnt lens) (D1 lens) o).is w∧SlA A w o 1 (bg lens 15).length (aT (bg lens 15))∧SlA A w a 1 lens.length (aT lens)∧SlA A w c 1 lens.length (aT (gk lens))
theorem Co (lens:List Nat)(v:aq)(M:Mem)(w:ao)(m:∀l∈lens,l<=15)(g:lens.length<=100000)(Q:0 < lens.length)(z:M.has w)(y:SlA M.A M.w v 1 lens.length (aT lens)) :
  lA ah 249 #[v] M w (λr N=>if bh lens≠0 then r=.tuple #[.pointer aw,ad (bh lens)] else ∃b,r=.tuple #[af b 0,ad 0]∧TbW N.A N.w b lens):=by
 refine aO z λK G=>Hf ?_;unfold IJ iN dx ldx fax nlx exx stx ecx cx;have a:dQ M.A w w [.mem M]:=dQ.memS z;refine aY a 0 rfl (Of lens v M w m g z y) ?_;rintro _ H S g1 ⟨cv,rfl,n,j⟩ a;simp only[ex,bO];by_cases o:bh lens=0
 case neg=>
  simp only[o,ne_eq,axB,auS,i_t];exact G _ _ H _ 0 a rfl g1 (by rw[auP o])
 have j:=j o;simp only[o,ne_eq,not_true,auT,i_f];refine aY a 0 rfl (Nv lens v H S g Q (a.hasM 0 rfl) (y.le g1)) λd e w2 g2 k a=>?_;refine aI a (R:=λr=>r=nsV (cnt lens)) (lA.told (yT lens v e w2 m g (a.hasM 0 rfl) (y.le (g1.trans g2)))) ?_;rintro _ w3 rfl a;rw[m_tb k.one n];refine aqA k.one n a λb T a=>?_;rw[bD,U6,tb_n a 0 rfl];refine aI a (R:=λr=>r=nsV (D1 lens)) (lA.told (Iw lens e T g (a.hasM 1 rfl))) ?_;rintro _ w5 rfl a;rw[bD,Yq];refine Y5 0 a rfl λU a=>?_;have p:=y.le (g1.trans g2);have a:dQ M.A w U [.urow 3 1 dY 0 [],tbE b d cv (cnt lens) (D1 lens) dY,.mem e]:=dQ.nilU (L:=[tbE b d cv (cnt lens) (D1 lens) dY,.mem e]) a _ _;refine loop (λvs W=>∃(l:Nat) (ov:aq),vs=[ad ((l+1:Nat):Int)]∧l<=15∧dQ M.A w W [.urow 3 1 ov (bg lens l).length (aT (bg lens l)),tbE b d cv (cnt lens) (D1 lens) ov,.mem e]) (λvs _=>16 - n0 vs) ⟨0,dY,rfl,om,a⟩ ?_;clear a;rintro vs V ⟨l,ov,rfl,q,a⟩ _;simp only[Ds,gd,rs,iN,bnx,lnx];by_cases s:((l+1:Nat):Int)<=15
 ·simp only[s,auS,i_t];rw[aS avJ (p.now (a.hasM 2 rfl))];have X:=ph lens l;have I:l*lens.length<=15*100000:=axW q g;refine loop (λvs W=>∃(i:Nat) (ov:aq),vs=[ad i]∧i<=lens.length∧dQ M.A w W [.urow 3 1 ov (bg lens l++cu lens (l+1) i).length (aT (bg lens l++cu lens (l+1) i)),tbE b d cv (cnt lens) (D1 lens) ov,.mem e]) (λvs _=>lens.length - n0 vs) ⟨0,ov,rfl,om,by
   rw[show cu lens (l+1) 0=[] from rfl,awF];exact a⟩ ?_
  clear a;rintro vs O ⟨i,ov,rfl,hi,a⟩ _;simp only[Cl,gd,rs,iN,dx,ldx,bnx,iax,fax,nlx,stx,eqx,apx];by_cases f:(i:Int) < (lens.length:Int)
  ·have t:i < lens.length:=om
   simp only[f,auS,i_t];refine join λJ Y=>?_;obtain⟨b2,off,Z,r2⟩:=eG (p.now (a.hasM 2 rfl)) t;have B:lens.getD i 0=lens[i]:=by rw[auZ,auX t];rfl
   refine aC (Z O) |>.mpr (aC (aB aW r2) |>.mpr ?_);have a1:=pg lens (l+1) i;have c:cu lens (l+1) (i+1)=cu lens (l+1) i++(if lens[i]=l+1 then [i] else []):=by
    unfold cu;rw[azM,aAW]
    congr 1
    rw[<-B];by_cases h:lens.getD i 0=l+1
    ·rw[auP h];exact List.filter_cons_of_pos (auR h)
    ·rw[auO h];exact List.filter_cons_of_neg (by rw[auQ h];decide)
   have fin:∀(W:ao) (ov:aq),dQ M.A w W [.urow 3 1 ov (bg lens l++cu lens (l+1) (i+1)).length (aT (bg lens l++cu lens (l+1) (i+1))),tbE b d cv (cnt lens) (D1 lens) ov,.mem e]->J [] W:=by
    intro W ov a;refine Y _ _ λ_=>?_;simp only[Dq,gd,rs,iN,bnx];rw[aA om om];exact aU ⟨i+1,ov,rfl,om,a⟩ (by simp[n0,RowKit.intOf];omega)
   simp only[rs];by_cases he:lens[i]=l+1
   ·rw[auP he] at c;simp only[show ai (((lens[i]:Nat):Int)=((l+1:Nat):Int))=av from auR om,i_t,rs,bD];rw[Q6,UQ a 1 rfl];refine kK (i:Int) a λb3 w9 a=>?_;refine gY 1 a rfl (a.sl 0 rfl 1 1 1 rfl) gI (by rw[auU];omega) λv' a6 a=>?_
    try simp only[rs,bD]
    rw[Q6];refine YF 2 (cP (a.at_ 1 rfl)) a rfl λC a=>?_;refine fin C v' ?_;have e1:aT (bg lens l++cu lens (l+1) (i+1))=aT (bg lens l++cu lens (l+1) i)++tD [(i:Int)]:=by
     rw[c,<-avO,iV];rfl
    have e2:(bg lens l++cu lens (l+1) (i+1)).length=(bg lens l++cu lens (l+1) i).length+1:=by
     rw[c,<-avO,auU];rfl
    rw[e1,e2];exact a.tail
   ·rw[auO he,awF] at c;simp only[show ai (((lens[i]:Nat):Int)=((l+1:Nat):Int))=au from auQ om,i_f];refine fin O ov ?_;rw[c];exact a
  ·simp only[f,auT,i_f];have D:i=lens.length:=om
   subst D;rw[aA om om];exact aU ⟨l+1,ov,rfl,om,a⟩ (by simp[n0,RowKit.intOf];omega)
 ·have g:l=15:=om
  subst g;simp only[s,auT,i_f];obtain⟨P,g3,u,a⟩:=dQ.bH (L:=[tbE b d cv (cnt lens) (D1 lens) ov,.mem e]) a 1 rfl;have a:dQ M.A w V [tbE b d cv (cnt lens) (D1 lens) ov,.mem P]:=a;have E:=a.at_ 0 rfl;obtain⟨N4,g4,F,x,a⟩:=dQ.freeze (L:=[.mem P]) a 0 rfl;refine G _ _ N4 _ 0 a rfl (g1.trans (g2.trans (g3.trans g4))) ?_;rw[auO (by simp[o])];exact⟨b,rfl,d,cv,ov,x b rfl,by rw[F];exact E,u.le g4,k.le (g3.trans g4),j.le (g2.trans (g3.trans g4))⟩
theorem yr {v n k:Nat}(h:k < n):(iw v n).take (k+1)=(iw v n).take k++[v / 2 ^ (n - 1 - k) % 2]:=by
 rw[avP (by rw[tp];exact h)]
 congr 2
 simp[iw]
section
variable {w:ao}{PK:PKT}{K:VWP}{S:Nat->Prop}{w0:ao}{L T:List Ent}
theorem Hx {lens:List Nat}(a:dQ S w0 w (Wr b way l v T))(hm:T[jm]?=ax (.mem M))(V:TbW M.A M.w tb lens)(X:bh lens=0)(m:∀l∈lens,l<=15)(hi:0 < lens.getD i 0)
  (x:dz l) (hw:way=0∨way=1) (hl:l.length<=1000000000) (k:∀way' v' W,(way'=0∨way'=1)->dQ S w0 W (Wr b way' (l++gh lens i) v' T)->K (ad 0) W) :
  eN ah 256 #[af tb 0,af b 0,ad (i:Int)] w PK K:=by
 refine eR (CC (k0:=zy λv W=>v=ad 0∧∃way' v',(way'=0∨way'=1)∧dQ S w0 W (Wr b way' (l++gh lens i) v' T)) ?_) (λe W ⟨v,he,Y,way',v',y,a⟩=>by subst he;subst Y;exact k way' v' W y a);unfold vP nz;obtain⟨z,B,I,J,o,L,g,C⟩:=V;have c:i < lens.length:=by
  rcases awO i lens.length with h|h
  ·exact h
  ·rw[auZ,ayG h] at hi;exact absurd hi (aAp _)
 have j:lens.getD i 0=lens[i]:=by rw[auZ,auX c];rfl
 have p:lens[i]<=15:=m _ (avD c);have D:=wh (yi (yj X)) m hi;rw[j] at hi D;have N:2 ^ lens[i]<=2 ^ 15:=awC dc p;have Z:(2:Nat) ^ 15=32768:=rfl;have d:∀{W:ao} {way:Int} {l:List Nat} {v:aq},dQ S w0 W (Wr b way l v T)->M.has W:=λa=>a.hasM (jm+2) (by rw[awH,awH];exact hm);have hlen:=g.1.1;have q:∀{W:ao},M.has W->(aG 59 (af tb 0)).run ah W=.ok (.value z) W:=λE=>aB MH (aJ (T:=315) (cs:=tbC z B (cnt lens) (D1 lens) I) (acC J o E) (i:=0) rfl);have F:∀{W:ao},M.has W->(aG 59 (af tb (0+1))).run ah W=.ok (.value B) W:=λE=>aB MH (aJ (T:=315) (cs:=tbC z B (cnt lens) (D1 lens) I) (acC J o E) (i:=1) rfl);rw[Zr];simp only[rs];rw[OE];simp only[rs,show ai ((i:Int) < 0)=au from auQ om,bD];rw[aQ agD];refine aC (q (d a)) |>.mpr ?_;rw[aS avJ (g.now (d a))];simp only[rs,show ai ((lens.length:Int)<=(i:Int))=au from auQ om,bD];rw[aQ agD];refine aC (q (d a)) |>.mpr ?_;obtain⟨b2,off,O,P⟩:=eG (g.now (d a)) c;refine aC (O w) |>.mpr (aC (aB aW P) |>.mpr ?_);simp only[rs,show ai (((lens[i]:Nat):Int)=0)=au from auQ om,i_f];rw[aA om om];have r:gh lens i=iw (ep lens i) lens[i]:=by unfold gh;rw[j]
 refine loop (λvs W=>∃(k:Nat) (way':Int) (v':aq),vs=[ad ((lens[i]:Int) - 1 - k)]∧k<=lens[i]∧(way'=0∨way'=1)∧dQ S w0 W (Wr b way' (l++(gh lens i).take k) v' T)) (λvs _=>((RowKit.intOf (vs.getD 0 undef))+1).toNat) ⟨0,way,v,sm,om,hw,by rw[ayJ,awF];exact a⟩ ?_;clear a hw O P;rintro vs w4 ⟨k,way',v',rfl,hk,hw,a⟩ _;simp only[qT,gd,rs,nz];by_cases s:(0:Int)<=(lens[i]:Int) - 1 - k
 ·simp only[s,auS,i_t,bD];rw[aQ alF];refine aC (F (d a)) |>.mpr ?_;have f:=C.now (d a);rw[show lens.length=(gk lens).length by rw[gp]] at f;obtain⟨b3,Q,r3,R⟩:=eG f (i:=i) (by rw[gp];exact c);have G:(gk lens)[i]'(by rw[gp];exact c)=ep lens i:=by
   have:=rn c;rw[auX (by rw[gp];exact c)] at this;exact ayB this
  rw[G] at R;refine aC (r3 w4) |>.mpr (aC (aB aW R) |>.mpr ?_);have t:(lens[i]:Int) - 1 - k=((lens[i] - 1 - k:Nat):Int):=om
  rw[F2 om,t,show min ((lens[i] - 1 - k:Nat):Int).toNat IntKind.i64.bits=lens[i] - 1 - k by show min ((lens[i] - 1 - k:Nat):Int).toNat 64=_;omega,Sd,Y4];have a1:ep lens i / 2 ^ (lens[i] - 1 - k)<=ep lens i:=azF _ _;rw[amP om];have U:ep lens i / 2 ^ (lens[i] - 1 - k) % 2 < 2:=ayE _ dc;refine pX (n:=1) a (dd x (λb hb=>kg _ _ b (axF hb))) hw om om (by rw[auU,avA];omega) λu v2 w5 H a=>?_;have e1:bf (ep lens i / 2 ^ (lens[i] - 1 - k) % 2) 1=[ep lens i / 2 ^ (lens[i] - 1 - k) % 2]:=by
   show [ep lens i / 2 ^ (lens[i] - 1 - k) % 2 / 2 ^ 0 % 2]=_;rw[Nat.pow_zero,Nat.div_one,Nat.mod_mod]
  rw[e1,avO,r,<-yr om,<-r] at a;simp only[rs,show ai ((0:Int)≠0)=au from rfl,i_f];rw[aA om om];exact aU ⟨k+1,u,v2,by congr 2<;>omega,om,H,a⟩ (by simp[RowKit.intOf]<;>omega)
 ·simp only[s,auT,i_f];have t:k=lens[i]:=om
  rw[avX (by rw[jj,j];omega)] at a;exact xB ⟨rfl,way',v',hw,a⟩
end
end
section
open Eng
def oP(d c e a w)(t:JT)(K:KT):=
 bnx .lss 3 a e w K λb w=>etx b a w λf w=>gtx b (gS .add 3 f (iN 3)) w K λg w=>etx b c w λh w=>gtx b (mB .len #[9] 3 #[au] #[h]) w K λi w=>gtx b (gS .leq 3 g i) w K λj w=>dx (fK b j (.bool au)) w K λk w=>IfX k (AI w (λS2 w=>HDo ah (λ_=>True) (gS .add 3 a (iN 3)) λl=>HDo ah (λ_=>True) (cY 9 c (ax a) (ax l) aw) λm=>HDo ah (λ_=>True) (gS .add 3 a (iN 3)) λn=>HDo ah (λ_=>True) (cY 9 c (ax a) (ax n) aw) λo=>HDo ah S2 (Wd 269 d o au) λp=>DoX ah (bJ 59 1 #[(0,a)]) w (ay 14 (pk K)) λq w=>S2 w∧(DoX ah (mB .append #[59,59] 59 #[au,au] #[p,q]) w (ay 14 (pk K)) λr w=>(DoX ah (acW 269 d m r) w (ay 14 (pk K)) λ_ w=>(bnx .add 3 a (iN 1) w K λs w=>t [s] w))))) (K (.returned (.tuple #[])) w)
def rX(a b c d w)(K:KT):=
 zr [c] w (λe w f=>∀_:Sg,oP a b d (e.getD 0 undef) w f K)
theorem Bs:rX t0 t1 t2 t3 w k0->Calls ah 247 #[t0,t1,t2,t3] w k0:=cz [] [(1,[8])] func247
def xU(t10 w)(a:JT)(K:KT):=nz f246 1887 [a] [nh 15 [10]] [] (zg [10] [t10]) w K
def jI(t1 t2 t6 t7 t8 t9 t10 w)(a:JT)(K:KT):=nz f246 351 [a] [nh 15 [10],(16,[],λs v j w f=>xU (s 10) w (f 0) K)] [] (zg [1,2,6,7,8,9,10] [t1,t2,t6,t7,t8,t9,t10]) w K
def lG(t0 t1 t2 w)(K:KT):=nz f246 1 [] [(15,[10],λs v j w f=>jI (s 1) (s 2) (s 6) (s 7) (s 8) (s 9) (vg v 0) w (f 0) K)] [] (zg [0,1,2] [t0,t1,t2]) w K
theorem wA:lG t0 t1 t2 w k0->Calls ah 246 #[t0,t1,t2] w k0:=cz [(8,[])] [(7,[10])] func246
def wR(t0 t3 t4 t5 t6 t7 w)(a:JT)(K:KT):=nz f221 4015 [a] [nh 13 [3,5]] [] (zg [0,3,4,5,6,7] [t0,t3,t4,t5,t6,t7]) w K
def xC(t0 t3 t4 t5 w)(a:JT)(K:KT):=nz f221 175 [a] [nh 13 [3,5],(22,[],λs v j w f=>wR (s 0) (s 3) (s 4) (s 5) (s 6) (s 7) w (f 0) K)] [] (zg [0,3,4,5] [t0,t3,t4,t5]) w K
def DD(t0 w)(K:KT):=nz f221 1 [] [(13,[3,5],λs v j w f=>xC (s 0) (vg v 0) (s 4) (vg v 1) w (f 0) K)] [] (zg [0] [t0]) w K
theorem Hz:DD t0 w k0->Calls ah 221 #[t0] w k0:=cz [(11,[])] [(6,[3,5])] func221
def Az(t0 t2 t6 t8 w)(a:JT)(K:KT):=nz f295 87 [a] [nh 11 [0,6,8]] [(8,14)] (zg [0,2,6,8] [t0,t2,t6,t8]) w K
def Ey(t0 t1 t2 w)(K:KT):=nz f295 1 [] [(11,[0,6,8],λs v j w f=>Az (vg v 0) (s 2) (vg v 1) (vg v 2) w (f 0) K)] [] (zg [0,1,2] [t0,t1,t2]) w K
theorem HV:Ey t0 t1 t2 w k0->Calls ah 295 #[t0,t1,t2] w k0:=cz [] [(5,[0,6,8])] func295
def Fc(t0 w)(K:KT):=nz f277 1 [] [] [] (zg [0] [t0]) w K
theorem IL:Fc t0 w k0->Calls ah 277 #[t0] w k0:=cw func277
def EY(t0 w)(K:KT):=nz f278 1 [] [] [] (zg [0] [t0]) w K
theorem Iu:EY t0 w k0->Calls ah 278 #[t0] w k0:=cw func278
def vI(t0 t3 t4 t5 w)(a:JT)(K:KT):=nz f220 123 [a] [nh 5 [0]] [] (zg [0,3,4,5] [t0,t3,t4,t5]) w K
def vC(t0 t3 w)(a:JT)(K:KT):=nz f220 11 [a] [nh 5 [0],(12,[5],λs v j w f=>vI (s 0) (s 3) (s 4) (vg v 0) w (f 0) K)] [] (zg [0,3] [t0,t3]) w K
def AB(t0 w)(K:KT):=nz f220 1 [] [(5,[0],λs v j w f=>vC (vg v 0) (s 3) w (f 0) K)] [] (zg [0] [t0]) w K
theorem Fy:AB t0 w k0->Calls ah 220 #[t0] w k0:=cz [(6,[5])] [(2,[0])] func220
def lO(t14 w)(a:JT)(K:KT):=nz f250 245 [a] [nh 5 [14]] [] (zg [14] [t14]) w K
def lX(t1 t3 t12 t13 t14 w)(a:JT)(K:KT):=nz f250 21 [a] [nh 5 [14],(24,[],λs v j w f=>lO (s 14) w (f 0) K)] [] (zg [1,3,12,13,14] [t1,t3,t12,t13,t14]) w K
def pH(t0 t1 t2 w)(K:KT):=nz f250 1 [] [(5,[14],λs v j w f=>lX (s 1) (s 3) (s 12) (s 13) (vg v 0) w (f 0) K)] [] (zg [0,1,2] [t0,t1,t2]) w K
theorem zM:pH t0 t1 t2 w k0->Calls ah 250 #[t0,t1,t2] w k0:=cz [(12,[])] [(2,[14])] func250
def DO(t0 w)(K:KT):=nz f222 1 [] [] [] (zg [0] [t0]) w K
theorem GL:DO t0 w k0->Calls ah 222 #[t0] w k0:=cw func222
def tG(t20 w)(a:JT)(K:KT):=nz f251 983 [a] [nh 9 [20]] [] (zg [20] [t20]) w K
def sY(t2 t3 t18 t19 t20 w)(a:JT)(K:KT):=nz f251 87 [a] [nh 9 [20],(24,[],λs v j w f=>tG (s 20) w (f 0) K)] [] (zg [2,3,18,19,20] [t2,t3,t18,t19,t20]) w K
def dV(a b c w)(K:KT):=
 iax 59 b (iN 256) w K λd w=>stx 3 d (iN 1) w K λ_ w=>lnx 247 a w K λe w=>zr [(iN 0)] w (λf w g=>∀_:Sg,sY b c a e (f.getD 0 undef) w g K)
def xG(a w)(K:KT):=
 DrawX w (λw=>(dx (IH 59 (iN 286) (iN 286)) w K λb w=>(dx (IH 59 (iN 30) (iN 30)) w K λc w=>dV a b c w K)∧(dx (IH 59 (iN 30) (iN 30)) w K λd w=>dV a b d w K))∧(dx (IH 59 (iN 30) (iN 30)) w K λe w=>dx (IH 59 (iN 286) (iN 286)) w K λf w=>dV a f e w K))
theorem Eb:xG t0 w k0->Calls ah 251 #[t0] w k0:=cz [(12,[])] [(4,[20])] func251
def B3(t0 t1 t5 w)(a:JT)(K:KT):=nz f253 19 [a] [nh 5 [5]] [] (zg [0,1,5] [t0,t1,t5]) w K
def F4(t0 t1 w)(K:KT):=nz f253 1 [] [(5,[5],λs v j w f=>B3 (s 0) (s 1) (vg v 0) w (f 0) K)] [] (zg [0,1] [t0,t1]) w K
theorem Ko:F4 t0 t1 w k0->Calls ah 253 #[t0,t1] w k0:=cz [] [(2,[5])] func253
def dS(t3 t4 t5 w)(a:JT)(K:KT):=nz f254 1003 [a] [nh 7 [3,4]] [] (zg [3,4,5] [t3,t4,t5]) w K
def xH(t0 t3 t4 t5 w)(a b:JT)(K:KT):=nz f254 619 [a,b] [nh 7 [3,4],nh 11 [5],(34,[3,5],λs v j w f=>dS (vg v 0) (s 4) (vg v 1) w (f 0) K)] [(5,19)] (zg [0,3,4,5] [t0,t3,t4,t5]) w K
def wJ(t0 t3 t4 w)(a:JT)(K:KT):=nz f254 43 [a] [nh 7 [3,4],(11,[5],λs v j w f=>xH (s 0) (s 3) (s 4) (vg v 0) w (f 1) (f 0) K)] [] (zg [0,3,4] [t0,t3,t4]) w K
def Dg(t0 w)(K:KT):=nz f254 1 [] [(7,[3,4],λs v j w f=>wJ (s 0) (vg v 0) (vg v 1) w (f 0) K)] [] (zg [0] [t0]) w K
theorem GM:Dg t0 w k0->Calls ah 254 #[t0] w k0:=cz [(17,[3,5])] [(3,[3,4]),(5,[5])] func254
def A2(w)(K:KT):=nz f255 1 [] [] [] (zg [] []) w K
theorem FP:A2 w k0->Calls ah 255 #[] w k0:=cw func255
def CZ(t0 t9 t16 t21 t132 t133 t134 w)(a:JT)(K:KT):=nz f223 92274687 [a] [nh 73 [134]] [] (zg [0,9,16,21,132,133,134] [t0,t9,t16,t21,t132,t133,t134]) w K
def tL(t0 t9 t10 t16 t21 t122 t123 t124 w)(a:JT)(K:KT):=nz f223 46137343 [a] [nh 63 [124],(73,[134],λs v j w f=>CZ (s 0) (s 9) (s 16) (s 21) (s 132) (s 133) (vg v 0) w (f 0) K)] [] (zg [0,9,10,16,21,122,123,124] [t0,t9,t10,t16,t21,t122,t123,t124]) w K
def Dx(t0 t5 t7 t9 t10 t14 t16 t18 t88 t89 w)(a:JT)(K:KT):=nz f223 180223 [a] [nh 39 [18,89],(63,[124],λs v j w f=>tL (s 0) (s 9) (s 10) (s 16) (s 21) (s 122) (s 123) (vg v 0) w (f 0) K)] [] (zg [0,5,7,9,10,14,16,18,88,89] [t0,t5,t7,t9,t10,t14,t16,t18,t88,t89]) w K
def C8(t0 t5 t7 t9 t10 t11 t64 t65 t66 w)(a:JT)(K:KT):=nz f223 11263 [a] [nh 23 [66],(39,[18,89],λs v j w f=>Dx (s 0) (s 5) (s 7) (s 9) (s 10) (s 14) (s 16) (vg v 0) (s 88) (vg v 1) w (f 0) K)] [] (zg [0,5,7,9,10,11,64,65,66] [t0,t5,t7,t9,t10,t11,t64,t65,t66]) w K
def HD(t0 w)(K:KT):=nz f223 1 [] [(23,[66],λs v j w f=>C8 (s 0) (s 5) (s 7) (s 9) (s 10) (s 11) (s 64) (s 65) (vg v 0) w (f 0) K)] [] (zg [0] [t0]) w K
theorem Kk:HD t0 w k0->Calls ah 223 #[t0] w k0:=cz [] [(11,[66]),(19,[18,89]),(31,[124]),(36,[134])] func223
def CH(t6 w)(K:KT):=nz f196 255 [] [] [] (zg [6] [t6]) w K
def CB(t1 t6 t7 w)(K:KT):=nz f196 127 [] [(32,[6],λs v j w f=>CH (vg v 0) w K)] [] (zg [1,6,7] [t1,t6,t7]) w K
def G9(t0 t1 w)(K:KT):=nz f196 1 [] [(24,[6],λs v j w f=>CB (s 1) (vg v 0) (s 7) w K)] [] (zg [0,1] [t0,t1]) w K
theorem J8:G9 t0 t1 w k0->Calls ah 196 #[t0,t1] w k0:=cz [(12,[6]),(16,[6])] [] func196
end
section
open Eng Go.RowKit
def ptC (x:bt):List Value:=[.int .u8 (x.1.toNat:Int),ad (x.2.1:Int),ad (x.2.2:Int)]
def ptV (x:bt):Value:=.agg (ptC x).toArray
abbrev ptE (b:Nat)(x:bt):Ent:=.cells b (ptC x) 271
theorem ajC (x:bt):(ptC x).length=3:=rfl
theorem Xg {x:bt}:∀u∈ptC x,u.oneCell'=true:=by
 intro u hu;simp only[ptC,avB,awS,or_false] at hu;rcases hu with rfl|rfl|rfl<;>rfl
theorem aiG:By ah 271=ax 3:=krx
theorem szPt:(Tryz.prog.info? 271).map (·.size)=ax 3:=krx
theorem Zt:uM ah 271 0=ax 0:=krx
theorem Qr:uM ah 271 1=ax 1:=krx
theorem aoT:uM ah 271 2=ax 2:=krx
theorem ptAt {l:List bt}(a:SlA M.A M.w v 3 l.length (l.flatMap ptC))(hi:i < l.length) :
  ∃p,(∀W,(mIA 247 v (ad (i:Int))).run ah W=.ok (.value (.pointer (ax p))) W)∧∀W,M.has W->(aG 271 (.pointer (ax p))).run ah W=.ok (.value (ptV l[i])) W:=by
 obtain⟨b,off,cap,rfl,_⟩:=bQ a.1 om;refine⟨⟨b,off+i*3,aw⟩,λW=>?_,λW e=>?_⟩
 ·have:=cR (P:=ah) (T:=247) (b:=b) (off:=off) (cap:=cap) (n:=l.length) (k:=.i64) (i:=(i:Int)) (w:=W) aA2 szPt om om;rw[auW] at this;exact this
 ·obtain⟨h,c,d,he,f⟩:=bQ (a.now e) om;cases he;refine bC (AtV.agg aiG (cs:=ptC l[i]) rfl λj u g=>?_);rw[axK];exact f _ _ (Eng.uY ajC hi g)
theorem acX {n k:Nat}(b:k<=30)(d:n<=1000000000):IS .i64 (n:Int) ((2 ^ k - 1:Nat):Int)=((n % 2 ^ k:Nat):Int):=by
 have hp:2 ^ k<=2 ^ 30:=awC dc b;have c:(2:Nat) ^ 30=1073741824:=rfl;have hm:n % 2 ^ k<=n:=Nat.mod_le _ _;unfold IS;show IntKind.wrap .i64 (((BitVec.ofInt 64 (n:Int) &&& BitVec.ofInt 64 ((2 ^ k - 1:Nat):Int)).toNat:Nat):Int)=_;rw[BitVec.ofInt_natCast,BitVec.ofInt_natCast,BitVec.toNat_and,BitVec.toNat_ofNat,BitVec.toNat_ofNat,axC om,axC (a:=2 ^ k - 1) om,Nat.and_two_pow_sub_one_eq_mod];exact aA om om
theorem aaP {a k:Nat}(b:k<=40)(h:a*2 ^ k<=4611686018427387904):IntKind.i64.wrap ((a:Int)*2 ^ min ((k:Nat):Int).toNat IntKind.i64.bits)=((a*2 ^ k:Nat):Int):=by
 rw[show min ((k:Nat):Int).toNat IntKind.i64.bits=k by show min ((k:Nat):Int).toNat 64=k;omega,show (a:Int)*2 ^ k=((a*2 ^ k:Nat):Int) by push_cast;rfl];exact aA om om
def sdT (r:Nat×Nat×Nat):Value:=.tuple #[ad (r.1:Int),ad (r.2.1:Int),ad (r.2.2:Int)]
theorem Tu (n b group:Nat)(w:ao)(F:n<=40000)(G:b<=8)(t:1<=group∧group<=4):Ret ah 295 #[ad (n:Int),ad (b:Int),ad (group:Int)] w (λv w'=>v=sdT (gx n b group)∧Below w.heap.size w w'):=by
 refine aL λK o=>HV ?_;unfold Ey nz;generalize e:gx n b group=R at o;unfold gx at e;simp only[rs];by_cases h:(n:Int) < (b:Int)
 ·simp only[h,auS,i_t];rw[auP om] at e;subst e;exact o _ _ ⟨rfl,(Own.start w).done⟩
 simp only[h,auT,i_f];rw[auO om] at e;rw[aA om om];have u:(2:Nat) ^ (1+20)=2097152:=rfl;refine loop (λvs W=>∃(m d bits f:Nat),vs=[ad (m:Int),ad (d:Int),ad (bits:Int)]∧m<=40000∧bits+f=21∧d<=8+4*bits∧m < group*2 ^ (bits+f)∧jt group f m d bits=R∧Own w W []) (λvs _=>n0 vs) ⟨n - b,b,1,20,by congr 2;omega,om,rfl,om,om,e,Own.start w⟩ ?_;rintro vs H ⟨m,d,bits,f,rfl,hm,A,B,p,c,l⟩ _;simp only[Az,gd,nz];have C:2 ^ bits<=2 ^ 21:=awC dc om;have D:(2:Nat) ^ 21=2097152:=rfl;have r:=aAI bits;have E:group*2 ^ bits<=4*2097152:=axW t.2 om;have x:1*1<=group*2 ^ bits:=axW t.1 r;rw[Bi om,aaP om om];simp only[rs];by_cases y:((group*2 ^ bits:Nat):Int)<=(m:Int)
 ·simp only[y,auS,i_t];obtain⟨f,rfl⟩:∃g,f=g+1:=⟨f - 1,by
   rcases axG f with z|z
   ·subst z;rw[axA] at p;omega
   ·omega⟩
  unfold jt at c;rw[auP om] at c;rw[Bi om,aaP om om];simp only[rs];rw[aA om om,aA om om,aA om om];rw[show (m:Int) - ((group*2 ^ bits:Nat):Int)=((m - group*2 ^ bits:Nat):Int) by omega];refine aU ⟨m - group*2 ^ bits,d+group,bits+1,f,rfl,om,om,om,?_,c,l⟩ (by show ((m - group*2 ^ bits:Nat):Int).toNat < ((m:Nat):Int).toNat;omega);rw[show bits+1+f=bits+(f+1) by omega];omega
 ·simp only[y,auT,i_f];have i:(d+m / 2 ^ bits,m % 2 ^ bits,bits)=R:=by
   cases f with
  |zero=>exact c
  |succ f=>
    unfold jt at c;rw[auO om] at c;exact c
  have s:m / 2 ^ bits<=m:=azF _ _;have j:=aaP (a:=1) (k:=bits) om om;refine dR (λW=>Own w W []) l.drew ?_;refine eZ _ (λ_=>aiY om) ?_;rw[show min ((bits:Nat):Int).toNat IntKind.i64.bits=bits by show min ((bits:Nat):Int).toNat 64=bits;omega,Sd];generalize m / 2 ^ bits=q at s i ⊢;refine iR ?_;rw[aA om om];refine eZ _ (λ_=>aiR om) ?_;rw[show ((1:Int))=((1:Nat):Int) from rfl,j,Nat.one_mul];refine eZ _ (λ_=>Cj) ?_;rw[aA om om,show ((2 ^ bits:Nat):Int) - ((1:Nat):Int)=((2 ^ bits - 1:Nat):Int) by omega];refine eZ _ (λ_=>acL) ?_;rw[acX om om];intro W l;refine o _ _ ⟨?_,l.done⟩;rw[<-i];rfl
theorem XS (n:Nat)(w:ao)(c:3<=n)(h:n<=258):Ret ah 277 #[ad (n:Int)] w (λv w'=>v=.tuple #[ad ((da n).1:Int),ad ((da n).2.1:Int),ad ((da n).2.2:Int),ad 0]∧Below w.heap.size w w'):=by
 refine aL λK a=>IL ?_;unfold Fc nz;obtain⟨s1,s2,_⟩:=nu c h;unfold da at a s1 s2;simp only[rs,show ai ((n:Int) < 3)=au from auQ om,show ai ((258:Int) < (n:Int))=au from auQ om,i_f];by_cases b:(n:Int)=258
 ·simp only[b,auS,i_t];rw[auP om] at a;exact a _ _ ⟨rfl,(Own.start w).done⟩
 ·simp only[b,auT,i_f];rw[auO om] at a s1 s2;rw[aA om om,show (n:Int) - 3=((n - 3:Nat):Int) by omega];refine aI (Own.start w) (R:=λv=>v=sdT (gx (n - 3) 8 4)) (Tu (n - 3) 8 4 w om om om) ?_;rintro _ w2 rfl d;unfold sdT;simp only[ex,rs];rw[aA om om];exact a _ _ ⟨sm,d.done⟩
theorem WU (n:Nat)(w:ao)(c:1<=n)(h:n<=32768):Ret ah 278 #[ad (n:Int)] w (λv w'=>v=.tuple #[ad ((ee n).1:Int),ad ((ee n).2.1:Int),ad ((ee n).2.2:Int),ad 0]∧Below w.heap.size w w'):=by
 refine aL λK a=>Iu ?_;unfold EY nz;simp only[rs,show ai ((n:Int) < 1)=au from auQ om,show ai ((32768:Int) < (n:Int))=au from auQ om,i_f];rw[aA om om,show (n:Int) - 1=((n - 1:Nat):Int) by omega];refine aI (Own.start w) (R:=λv=>v=sdT (gx (n - 1) 4 2)) (Tu (n - 1) 4 2 w om om om) ?_;rintro _ w2 rfl b;unfold sdT;simp only[ex,rs];exact a _ _ ⟨rfl,b.done⟩
theorem xh (last n:Nat)(l:List Nat)(s:List UInt8){k:Nat}(a:l.length=8*k):fk (l++bf last 1++bf 0 2)++bf n 16++bf (65535 - n) 16++gf s=l++ki last n s:=by
 unfold ki fk;rw[show (8 - (l++bf last 1++bf 0 2).length % 8) % 8=5 by simp only[auU,eg];omega];simp only[avO]
theorem MF {T2:TypeId}{k:IntKind}{b:Int}:DoX ah (mB .min #[T1,T2] U cb #[.int k a,.int k' b]) w PK K=K (.int k (min a b)) w:=aC (by
 have e:(if b < a then b else a)=min a b:=by split<;>omega
 simp[mB,builtin,Builtin.min_,Builtin.min2,e])
section
variable {w:ao}{PK:PKT}{K:VWP}{S:Nat->Prop}{w0:ao}{L T:List Ent}
theorem YZ {s:List UInt8}(a:dQ S w0 w T)(hs:s.length<=1048576)(k:∀W,dQ S w0 W T->K (ae (az (gn s))) W):eN ah 220 #[ae s] w PK K:=by
 refine eR (Fy (k0:=zy λu W=>u=ae (az (gn s))∧dQ S w0 W T) ?_) (λe W ⟨u,he,hv,a⟩=>by subst he;subst hv;exact k W a);unfold AB nz;refine Zc a λb w1 a=>?_;unfold gn;generalize hf:s.length / 65535+1=f;have F:s.length < f*65535:=om
 have G:f<=20:=om
 generalize hR:mr f s=R;refine loop (λvs W=>∃(t:List UInt8) (l:List Nat) (j g:Nat) (way:Int) (v:aq),vs=[ae t]∧t.length<=1048576∧t.length < g*65535∧g<=20∧l.length=8*j∧j+t.length+5*g<=1048776∧dz l∧l++mr g t=R∧(way=0∨way=1)∧dQ S w0 W (Wr b way l v T)) (λvs _=>qO (vs.getD 0 undef)) ⟨s,[],0,f,0,dY,rfl,hs,F,G,rfl,om,(λb hb=>by cases hb),by rw[<-hR];rfl,.inl rfl,a⟩ ?_;clear a;rintro vs w2 ⟨t,l,j,g,way,v,rfl,ht,a8,hg,H,b0,r,i,hw,a⟩ _;simp only[vC,gd,nz];rw[dE auV,MF];obtain⟨g,rfl⟩:∃q,g=q+1:=⟨g - 1,om⟩;unfold mr at i;have hn:min (t.length:Int) 65535=((min t.length 65535:Nat):Int):=om
 rw[hn];refine join λJ hJ=>?_;rw[dE auV];simp only[rs];have go:∀last:Nat,last < 2->(last=1↔t.length<=65535)->J [ad (last:Int)] w2:=by
  intro last I m;refine hJ _ _ λ_=>?_;simp only[vI,gd,nz];generalize b1:min t.length 65535=n;have X:n<=65535:=om
  have b2:n<=t.length:=om
  have b3:l.length<=10000000:=om
  refine pX (n:=1) a r hw om om om λY v1 w3 L a=>?_;have o:=dd r (ei last 1);refine pX (x:=0) (n:=2) a o L om dc (by rw[auU,eg];omega) λZ v2 w4 b4 a=>?_;have A:=dd o (ei 0 2);refine TE a λw5 a=>?_;have c:=wq A;have M:(fk (l++bf last 1++bf 0 2)).length=8*(j+1):=by
   rw[qi];simp only[auU,eg];omega
  generalize B:fk (l++bf last 1++bf 0 2)=N at a c M;refine pX (x:=n) (n:=16) a c (.inl rfl) om om om λa1 v4 w6 O a=>?_;have p:=dd c (ei n 16);simp only[rs];rw[aA om om,show (65535:Int) - (n:Int)=((65535 - n:Nat):Int) by omega];refine pX (x:=65535 - n) (n:=16) a p O om om (by rw[auU,eg];omega) λa6 v5 w7 b5 a=>?_;have a7:=dd p (ei (65535 - n) 16);have C:(N++bf n 16++bf (65535 - n) 16).length=8*(j+5):=by
   simp only[auU,eg];omega
  have P:fk (N++bf n 16++bf (65535 - n) 16)=N++bf n 16++bf (65535 - n) 16:=by
   unfold fk;rw[C,show (8 - 8*(j+5) % 8) % 8=0 by omega];exact awF _
  refine TE a λw8 a=>?_;rw[P] at a;rw[Us auV om om,auW];have D:(t.take n).length=n:=by rw[avA];omega
  refine apY (j:=j+5) a C om om λv6 w9 a=>?_;rw[Hl auV om om,auW];have d:=xh last n l (t.take n) H;rw[B] at d;rw[d] at a;have E:=dd r (wu last n (t.take n));have Q:(l++ki last n (t.take n)).length=8*(j+5+n):=by rw[auU,qj,D];omega
  try simp only[rs]
  by_cases y:t.length<=65535
  ·have U:=m.2 y;subst U;simp only[show ai (((1:Nat):Int)=1)=av from rfl,i_t];rw[auP y] at i;have z:n=t.length:=om
   rw[z,awI,i] at a;refine SX a (by rw[<-i,auU,qj];omega) (by rw[<-i,auU,qj];omega) λW a=>?_;exact⟨_,rfl,rfl,a⟩
  ·have V:last=0:=by
    have:¬last=1:=λe=>y (m.1 e);omega
   subst V;simp only[show ai (((0:Nat):Int)=1)=au from rfl,i_f];rw[auO y] at i;have z:n=65535:=om
   subst z;rw[<-avO] at i;have ld:(t.drop 65535).length=t.length - 65535:=avF;exact aU ⟨t.drop 65535,_,j+5+65535,g,0,v6,rfl,om,om,om,Q,om,E,i,.inl rfl,a⟩ (by
    show qO (ae (t.drop 65535)) < qO (ae t);rw[iH,iH];omega)
 by_cases y:t.length<=65535
 ·simp only[show ai (((min t.length 65535:Nat):Int)=(t.length:Int))=av from auR om,i_t];exact go 1 dc ⟨λ_=>y,λ_=>rfl⟩
 ·simp only[show ai (((min t.length 65535:Nat):Int)=(t.length:Int))=au from auQ om,i_f];exact go 0 dc ⟨(λh=>by cases h),λh=>absurd h y⟩
end
def qm (counts:List Nat)(i:Nat):List Nat:=(List.range i).filter λs=>ai (0 < counts.getD s 0)
def kj (counts:List Nat)(i:Nat):List Cn:=(qm counts i).map λs=>.leaf (counts.getD s 0) s
theorem yt (counts:List Nat):kj counts counts.length=iu counts:=rfl
theorem yu (counts:List Nat)(i:Nat):kj counts (i+1)=kj counts i++(if 0 < counts.getD i 0 then [.leaf (counts.getD i 0) i] else []):=by
 unfold kj qm;rw[azM,aAW,avT]
 congr 1
 by_cases h:0 < counts.getD i 0
 ·rw[auP h,aAX,auP (auR h)];rfl
 ·rw[auO h,aAX,auO (λk=>h (avG k))];rfl
theorem yw (counts:List Nat)(i:Nat):(kj counts i).length<=i:=by
 unfold kj qm;rw[avS];have:=aBi (λs=>ai (0 < counts.getD s 0)) (List.range i)
 rwa [List.length_range] at this
theorem H3 (l:List Nat)(i n:Nat):(aT l).set i (ad (n:Int))=aT (l.set i n):=by unfold aT;rw[aAb]
theorem Ig (h:i < l.length):(aT l)[i]?=ax (ad ((l.getD i 0:Nat):Int)):=by
 unfold aT;rw[azP,auZ,auX h];rfl
theorem TC:(Tryz.prog.info? 3).map (·.size)=ax 1:=krx
theorem afQ {g n:Nat}(hi:i < n)(W:ao):(mIA 59 (cW g 0 n cap) (ad (i:Int))).run ah W=.ok (.value (af g i)) W:=by
 have:=cR (P:=ah) (T:=59) (b:=g) (off:=0) (cap:=cap) (n:=n) (k:=.i64) (i:=(i:Int)) (w:=W) avJ TC om om
 rwa [auW,avQ,avC] at this
abbrev lnE (a g n:Nat):Ent:=.cells a [cW g 0 n n] 59
abbrev lrE (g:Nat)(out:List Nat):Ent:=.cells g (aT out) 3
def apO (a:Nat):Value:=.func (.func 282) #[] #[af a 0]
theorem Ns:cD ah 282=true:=krx
section
variable {w:ao}{PK:PKT}{K:VWP}{S:Nat->Prop}{w0:ao}{L T:List Ent}
theorem aiF :DoX ah (mEq .eql 320 xo yo (af b 0) (.pointer aw)) w PK K=K (.bool au) w:=aC krx
theorem adQ :DoX ah (mEq .eql 320 xo yo (.pointer aw) (.pointer aw)) w PK K=K (.bool av) w:=aC krx
theorem aqE {b g s:Nat}{out:List Nat}(a:dQ S w0 w (lnE b g out.length::lrE g out::T))(c:s < out.length)(f:out.getD s 0<=1000000000)
  (k:∀W,dQ S w0 W (lnE b g out.length::lrE g (out.set s (out.getD s 0+1))::T)->K (.tuple #[]) W):DoX ah (fV (apO b) #[ad (s:Int)]) w PK K:=by
 refine OI Ns ?_;show eN ah 282 #[ad (s:Int),af b 0] w PK K;refine eR (CQ (k0:=zy λv W=>v=.tuple #[]∧dQ S w0 W (lnE b g out.length::lrE g (out.set s (out.getD s 0+1))::T)) ?_) (λe W ⟨v,he,d,a⟩=>by subst he;subst d;exact k W a);unfold vE nz;rw[aH MH (a.cell 0 rfl 0 rfl)];refine aC (afQ c w) |>.mpr ?_;rw[aH aW (a.cell 1 rfl s (Ig c))];simp only[rs];rw[aA om om,show ((out.getD s 0:Nat):Int)+1=((out.getD s 0+1:Nat):Int) by omega];refine aC (afQ c w) |>.mpr ?_;refine aK 1 a rfl krx rfl (by rw[dZ];exact c) λw2 a=>?_;rw[H3] at a;exact xB ⟨rfl,a⟩
theorem Xb {o g jm:Nat}{M:Mem}(hm:T[jm]?=ax (.mem M)):∀(c:Cn) {v:aq} {w:ao} {PK:PKT} {K:VWP} {out:List Nat},dQ S w0 w (lnE o g out.length::lrE g out::T)->F9 M.A M.w v c ->
  (∀s,0 < c.cnt s->s < out.length)->(∀s,out.getD s 0+c.cnt s<=1000000000) ->
  (∀W a,a.length=out.length->(∀s,a.getD s 0=out.getD s 0+c.cnt s)->dQ S w0 W (lnE o g a.length::lrE g a::T)->K (.tuple #[]) W) ->
  eN ah 281 #[v,apO o] w PK K
|.leaf wt s,v,w,PK,K,out,d,l,j,C,k=>by
  refine eR (sP (k0:=zy λv W=>v=.tuple #[]∧∃a,a.length=out.length∧(∀t,a.getD t 0=out.getD t 0+(Cn.leaf wt s).cnt t)∧dQ S w0 W (lnE o g a.length::lrE g a::T)) ?_) (λe W ⟨v,he,l,a,D,E,d⟩=>by subst he;subst l;exact k W a D E d);unfold pG nz;obtain⟨b,rfl,p,q⟩:=l;have n:M.has w:=d.hasM (jm+2) (by rw[awH,awH];exact hm);rw[bD,aQ Zb];refine aC (aB Rm (aJ (T:=322) (cs:=cnC wt s (.pointer aw) (.pointer aw)) (oJ n p q) (i:=2) rfl)) |>.mpr ?_;rw[adQ,i_t,bD,aQ amR];refine aC (aB aW (aJ (T:=322) (cs:=cnC wt s (.pointer aw) (.pointer aw)) (oJ n p q) (i:=1) rfl)) |>.mpr ?_;have J:s < out.length:=j s (by simp[Cn.cnt]);have O:=C s;refine aqE d J om λW d=>?_;refine xB ⟨rfl,out.set s (out.getD s 0+1),axM,λt=>?_,by rw[axM];exact d⟩;rw[auZ];by_cases h:s=t
  ·subst h;rw[axP J];simp[Cn.cnt]
  ·rw[azO h,<-auZ];simp[Cn.cnt,h]
|.node x y,v,w,PK,K,out,d,l,j,C,k=>by
  refine eR (sP (k0:=zy λv W=>v=.tuple #[]∧∃a,a.length=out.length∧(∀t,a.getD t 0=out.getD t 0+(Cn.node x y).cnt t)∧dQ S w0 W (lnE o g a.length::lrE g a::T)) ?_) (λe W ⟨v,he,l,a,D,E,d⟩=>by subst he;subst l;exact k W a D E d);unfold pG nz;obtain⟨b,va,F,rfl,p,q,L,P⟩:=l;have m:∀{W:ao} {e e':Ent},dQ S w0 W (e::e'::T)->M.has W:=λd=>d.hasM (jm+2) (by rw[awH,awH];exact hm);obtain⟨R,Q,_⟩:=F9.ptr L;have r:∀{W:ao},M.has W->(aG 320 (af b (0+2))).run ah W=.ok (.value va) W:=λn=>aB Rm (aJ (T:=322) (cs:=cnC (x.wt+y.wt) 0 va F) (oJ n p q) (i:=2) rfl);have G:∀{W:ao},M.has W->(aG 320 (af b (0+3))).run ah W=.ok (.value F) W:=λn=>aB Rm (aJ (T:=322) (cs:=cnC (x.wt+y.wt) 0 va F) (oJ n p q) (i:=3) rfl);have f:∀t,(Cn.node x y).cnt t=x.cnt t+y.cnt t:=λt=>rfl;rw[bD,aQ Zb];refine aC (r (m d)) |>.mpr ?_;rw[Q,aiF,i_f]
  try rw[bD]
  rw[aQ Zb];refine aC (r (m d)) |>.mpr ?_;refine Xb hm x d L (λs h=>j s (by rw[f];omega)) (λs=>by have:=C s;rw[f] at this;omega) λU N u z d=>?_
  try rw[bD]
  rw[aQ amZ];refine aC (G (m d)) |>.mpr ?_;refine Xb hm y d P (λs h=>by rw[u];exact j s (by rw[f];omega)) (λs=>by have:=C s;rw[f] at this;rw[z];omega) λV B H I d=>?_;exact xB ⟨rfl,B,by rw[H,u],λt=>by rw[I,z,f];omega,d⟩
end
theorem L1 {ps:List Pc}(h:(pcE v ps).is w):DoX ah (mB .len #[319] 3 #[au] #[v]) w PK K=K (ad (ps.length:Int)) w:=aS axD (Sl.urow h)
theorem afG {d b:Nat}{out:List Nat}(a:dQ S w0 w (lnE d b out.length::lrE b out::R))(e:R[j]?=ax (Ent.mem N))(k:out.length<=1000000) :
  ∃c:Mem,N.le c∧SlA c.A c.w (cW b 0 out.length out.length) 1 out.length (aT out)∧∃(f:List Ent) (h:Nat),dQ S w0 w f∧f[h]?=ax (Ent.mem c):=by
 have a:dQ S w0 w ([lnE d b out.length]++([lrE b out]++R)):=a;have a:dQ S w0 w (.cells b (aT out) 3::(lnE d b out.length::R)):=a.front;have a:=a.toU 1 out.length out.length (by rw[dZ,avQ]) (auY _) om;rw[avQ,avX (by rw[dZ];exact auY _)] at a;obtain⟨c,g,i,a⟩:=dQ.bH a (j+1) (by rw[awH];exact e);refine⟨c,g,i,_,j+1,a,?_⟩;rw[axP (by
  have:=(avL.1 e).1;simp only[avR];omega)]
theorem Ad {ps:List Pc}{l:List Cn}(h:ps.map (·.2)=l):ps.length=l.length:=by rw[<-h,avS]
def prC (a b:Nat):List Value:=[af a 0,af b 0]
def prV (a b:Nat):Value:=.agg (prC a b).toArray
theorem Qn:uM ah 276 0=ax 0:=krx
theorem Y6:uM ah 276 1=ax 1:=krx
theorem apZ:By ah 276=ax 2:=krx
theorem yx {far:List Nat}(a:∀l∈near,l<=15)(b:∀l∈far,l<=15){x:bt}(h:je m x):(fx near far x).length<=48:=by
 have c:∀i,near.getD i 0<=15:=ja a dc;have e:∀i,far.getD i 0<=15:=ja b dc;unfold fx;unfold je at h;by_cases d:x.2.1=0
 ·rw[auP d,jj];have:=c x.1.toNat;omega
 ·rw[auO d] at h ⊢;obtain⟨_,_,_,_,_,f⟩:=nu h.2.1 h.2.2.1;obtain⟨_,_,_,_,f5⟩:=qg h.2.2.2.1 h.2.2.2.2.1;simp only[auU,jj,eg];have:=c (da x.2.1).1;have:=e (ee x.2.2).1;omega
theorem od {near far:List Nat}(a:∀l∈near,l<=15)(b:∀l∈far,l<=15):∀{l:List bt},(∀x∈l,∃m,je m x)->(l.flatMap (fx near far)).length<=48*l.length
|[],_=>auY _
|x::l,h=>by
  obtain⟨m,hm⟩:=h x (axR ..);have d:=yx a b hm;have e:=od a b λy c=>h y (awR _ c);rw[ayM,auU,avR];omega
theorem xi (near far:List Nat)(l:List bt):dz (l.flatMap (fx near far)):=λb a=>by
 obtain⟨x,_,c⟩:=aAF.1 a;exact wi near far x b c
section
variable {w:ao}{PK:PKT}{K:VWP}{S:Nat->Prop}{w0:ao}{L T:List Ent}
theorem Xd (a:dQ S w0 w L)(k:∀b w',dQ S w0 w' (ptE b (0,0,0)::L)->K (af b 0) w'):DoX ah (iM 271) w PK K:=
 bB (λb=>af b 0) (ptC (0,0,0)) 271 (λ_=>by kernel_rfl) a k
theorem U4 (j:Nat){x y:bt}(a:dQ S w0 w L)(hi:L[j]?=ax (ptE b x))(k:∀w',dQ S w0 w' (L.set j (ptE b y))->K undef w') :
  DoX ah (aV 271 (af b 0) (ptV y)) w PK K:=CP j a hi (new:=ptC y) szPt Xg (by show 0+3<=3;omega) k
theorem pt_0 (a:dQ S w0 w L)(j:Nat){x:bt}(hi:L[j]?=ax (ptE b x)):DoX ah (aG 5 (af b (0+0))) w PK K=K (.int .u8 (x.1.toNat:Int)) w:=aH nU8l (a.cell j hi 0 rfl)
theorem pt_1 (a:dQ S w0 w L)(j:Nat){x:bt}(hi:L[j]?=ax (ptE b x)):DoX ah (aG 3 (af b (0+1))) w PK K=K (ad (x.2.1:Int)) w:=aH aW (a.cell j hi 1 rfl)
theorem pt_2 (a:dQ S w0 w L)(j:Nat){x:bt}(hi:L[j]?=ax (ptE b x)):DoX ah (aG 3 (af b (0+2))) w PK K=K (ad (x.2.2:Int)) w:=aH aW (a.cell j hi 2 rfl)
theorem UE {g:Nat}{far:List Nat}{ps:List bt}(a:dQ S w0 w (Wr b way l v T))(hm:T[jm]?=ax (.mem M))(t:TbW M.A M.w g near)(V:TbW M.A M.w tb far)
  (u:bh near=0) (X:bh far=0) (d:∀l∈near,l<=15) (h:∀l∈far,l<=15) (D:0 < near.getD 256 0) (E:SlA M.A M.w pv 3 ps.length (ps.flatMap ptC)) (hh:∀x∈ps,kd near far x) (F:kh 0 ps) (b7:ps.length<=1048576)
  (G:dz l) (hw:way=0∨way=1) (hl:l.length<=100000000) (k:∀way' v' W,(way'=0∨way'=1)->dQ S w0 W (Wr b way' (l++gy near far ps) v' T)->K (.tuple #[]) W) :
  eN ah 250 #[prV g tb,af b 0,pv] w PK K:=by
 refine eR (zM (k0:=zy λv W=>v=.tuple #[]∧∃way' v',(way'=0∨way'=1)∧dQ S w0 W (Wr b way' (l++gy near far ps) v' T)) ?_) (λe W ⟨v,he,hv,way',v',Y,a⟩=>by subst he;subst hv;exact k way' v' W Y a);unfold pH nz;refine bB (λb=>af b 0) (prC g tb) 276 (λ_=>by kernel_rfl) a λo Z a=>?_;have a:dQ S w0 Z (([.cells o (prC g tb) 276]:List Ent)++([wrE b way l.length v,iS v (az l)]++T)):=a;have a:dQ S w0 Z (Wr b way l v (.cells o (prC g tb) 276::T)):=a.front;have H:∀{W:ao} {way:Int} {l:List Nat} {v:aq} {e:Ent},dQ S w0 W (Wr b way l v (e::T))->M.has W:=λa=>a.hasM (jm+3) (by rw[awH,awH,awH];exact hm);rw[aS aA2 (E.now (H a))];refine loop (λvs W=>∃(i:Nat) (way':Int) (v':aq),vs=[ad (i:Int)]∧i<=ps.length∧(way'=0∨way'=1)∧dQ S w0 W (Wr b way' (l++(ps.take i).flatMap (fx near far)) v' (.cells o (prC g tb) 276::T))) (λvs _=>ps.length - n0 vs) ⟨0,way,v,rfl,om,hw,by show dQ S w0 Z (Wr b way (l++[]) v _);rw[awF];exact a⟩ ?_;clear a hw;rintro vs w2 ⟨i,way',v',rfl,hi,hw,a⟩ _;simp only[lX,gd,rs,nz];have I:=od d h (l:=ps.take i) λx q=>ma F x (axF q);rw[avA,awB hi] at I;have j:=xi near far (ps.take i);by_cases L:(i:Int) < (ps.length:Int)
 ·have r:i < ps.length:=om
  simp only[L,auS,i_t];obtain⟨p,a1,N⟩:=ptAt E r;refine join λJ hJ=>?_;rw[aC (a1 w2),aC (N w2 (H a))];have q:=hh _ (avD r);obtain⟨mx,c⟩:=ma F _ (avD r);have a6:ps.take (i+1)=ps.take i++[ps[i]]:=avP r;have fin:∀(W:ao) (way':Int) (v':aq) (s:Nat),(way'=0∨way'=1)->dQ S w0 W (Wr b way' (l++(ps.take i).flatMap (fx near far)++fx near far ps[i]) v' (ptE s ps[i]::.cells o (prC g tb) 276::T))->J [] W:=by
   intro W way' v' s hw a;refine hJ _ _ λ_=>?_;simp only[lO,gd,rs,nz];rw[aA om om];refine aU ⟨i+1,way',v',rfl,om,hw,?_⟩ (by simp[n0,RowKit.intOf];omega);rw[a6,axH,ayO,<-avO];have a:dQ S w0 W ((Wr b way' (l++(ps.take i).flatMap (fx near far)++fx near far ps[i]) v' [])++([ptE s ps[i]]++(.cells o (prC g tb) 276::T))):=a;exact a.front.tail
  generalize ps[i]=x at q c N fin;generalize hB:l++(ps.take i).flatMap (fx near far)=B at a fin;have b8:B.length<=200000000:=by rw[<-hB,auU];omega
  have m:dz B:=by rw[<-hB];exact dd G j
  refine Xd a λs w3 a=>?_;refine U4 (y:=x) 0 a rfl λw4 a=>?_;have a:dQ S w0 w4 ([ptE s x]++(Wr b way' B v' []++(.cells o (prC g tb) 276::T))):=a;have a:dQ S w0 w4 (Wr b way' B v' (ptE s x::.cells o (prC g tb) 276::T)):=a.front;have n:(ptE s x::.cells o (prC g tb) 276::T)[jm+2]?=ax (.mem M):=by rw[awH,awH];exact hm
  unfold kd at q;unfold fx at fin;unfold je at c;rw[aQ Qr,pt_1 a 2 rfl];simp only[rs];by_cases R:x.2.1=0
  ·rw[auP R] at q c;simp only[auP R] at fin;simp only[show ai ((x.2.1:Int)=0)=av from auR om,i_t];rw[aQ Qn,aH U5 (a.cell 3 rfl 0 rfl),aQ Zt,pt_0 a 2 rfl];have hc:=x.1.toNat_lt;refine aC (aZ krx awM) |>.mpr ?_;rw[aA om om];refine Hx (i:=x.1.toNat) a n t u d q m hw om λf v5 U z a=>?_;exact fin U f v5 s z a
  ·rw[auO R] at q c;simp only[auO R] at fin;obtain⟨s1,s2,s3,s4,s5,s6⟩:=nu c.2.1 c.2.2.1;obtain⟨f1,f2,f3,f4,f5⟩:=qg c.2.2.2.1 c.2.2.2.2.1;simp only[show ai ((x.2.1:Int)=0)=au from auQ om,i_f];rw[aQ Qr,pt_1 a 2 rfl];refine aI a (XS x.2.1 w4 c.2.1 c.2.2.1) ?_;rintro _ U rfl a;simp only[ex];rw[aQ Qn,aH U5 (a.cell 3 rfl 0 rfl)];have n1:near.getD (da x.2.1).1 0<=15:=ja d dc _;have n2:far.getD (ee x.2.2).1 0<=15:=ja h dc _;refine Hx (i:=(da x.2.1).1) a n t u d q.1 m hw om λb4 v6 w6 a7 a=>?_;have O:=dd m (kg near (da x.2.1).1);refine pX a O a7 om s5 (by rw[auU,jj];omega) λb5 v7 w7 a8 a=>?_;have P:=dd O (ei (da x.2.1).2.1 (da x.2.1).2.2);rw[aQ aoT,pt_2 a 2 rfl];refine aI a (WU x.2.2 w7 c.2.2.2.1 c.2.2.2.2.1) ?_;rintro _ w8 rfl a;simp only[ex];rw[aQ Y6,aH U5 (a.cell 3 rfl 1 rfl)];refine Hx (i:=(ee x.2.2).1) a n V X h q.2 P a8 (by simp only[auU,jj,eg];omega) λb6 v9 w9 b0 a=>?_;have b1:=dd P (kg far (ee x.2.2).1);refine pX a b1 b0 om f4 (by simp only[auU,jj,eg];omega) λC v10 b2 Q a=>?_;refine fin b2 C v10 s Q ?_;simp only[avO] at a ⊢;exact a
 ·simp only[L,auT,i_f];have b3:i=ps.length:=om
  subst b3;rw[awI] at a I j;have n:(.cells o (prC g tb) 276::T)[jm+1]?=ax (.mem M):=by rw[awH];exact hm
  rw[aQ Qn,aH U5 (a.cell 2 rfl 0 rfl)];refine Hx (i:=256) a n t u d D (dd G j) hw (by rw[auU];omega) λf v5 U z a=>?_;refine xB ⟨rfl,f,v5,z,?_⟩;unfold gy;rw[<-avO];have a:dQ S w0 U ((Wr b f (l++ps.flatMap (fx near far)++gh near 256) v5 [])++([.cells o (prC g tb) 276]++T)):=a;exact a.front.tail
end
theorem TbW.le {M N:Mem}(h:M.le N){b:Nat}{lens:List Nat}(k:TbW M.A M.w b lens):TbW N.A N.w b lens:=by
 obtain⟨a,c,o,d,e,f,g,i⟩:=k;refine⟨a,c,o,h.A b d,?_,f.le h,g.le h,i.le h⟩;show N.w.heap[b]?=_;rw[h.has b d];exact e
theorem Vg (ps:List bt)(pv:aq)(M:Mem)(w:ao)(i:M.has w)(k:SlA M.A M.w pv 3 ps.length (ps.flatMap ptC))(c:kh 0 ps)(m:ps.length<=1048576) :
  lA ah 222 #[pv] M w (λv _=>v=ae (az (fw ps))):=by
 refine aO i λK E=>GL ?_;unfold DO nz;have a:dQ M.A w w [.mem M]:=dQ.memS i;refine aY a 0 rfl (Oh M w i) ?_;rintro _ F T g1 ⟨va,G,rfl,H,f⟩ a;simp only[ex];refine bB (λb=>af b 0) [.pointer aw,.pointer aw] 276 (λ_=>by kernel_rfl) a λI w2 a=>?_;have U:bj.length=288:=by decide +kernel
 refine aY a 1 rfl (Co bj va F w2 ny om om (a.hasM 1 rfl) H) ?_;rintro _ J w3 g3 s a;rw[auO (by rw[qa];exactλh=>h rfl)] at s;obtain⟨t,rfl,d⟩:=s;simp only[ex];rw[aQ Qn];refine aK 0 a rfl krx rfl (by show 0+0 < 2;omega) λL a=>?_;refine aY a 1 rfl (Co cj G J L ql (by rw[lu];omega) (by rw[lu];omega) (a.hasM 1 rfl) (f.le g3)) ?_;rintro _ y V g5 z a;rw[auO (by rw[qb];exactλh=>h rfl)] at z;obtain⟨tb,rfl,o⟩:=z;simp only[ex];rw[aQ Y6];refine aK 0 a rfl krx rfl (by show 0+1 < 2;omega) λN a=>?_;have a:dQ M.A w N [.cells I (prC t tb) 276,.mem y]:=a;have d:=TbW.le g5 d;refine Zc a λb X a=>?_;refine pX (x:=1) (n:=1) a (λb f=>by cases f) (.inl rfl) om dc sm λB v1 Y p a=>?_;have g:dz ([]++bf 1 1):=dd (λb f=>by cases f) (ei 1 1);refine pX (x:=1) (n:=2) a g p om dc (by simp[eg]) λC v2 Z q a=>?_;have r:=dd g (ei 1 2);refine aC (bC (AtV.agg apZ (cs:=prC t tb) rfl λj u O=>by rw[avC];exact a.cell 2 rfl j O)) |>.mpr ?_;refine UE (jm:=1) a rfl d o qa qb ny ql (qk dc) (k.le (g1.trans (g3.trans g5))) (yn c) c m r q (by simp[eg]) λD v3 P Q a=>?_;have e:[]++bf 1 1++bf 1 2++gy bj cj ps=fw ps:=by unfold fw;simp
 rw[e] at a;have hl:(fw ps).length<=100000000:=by
  unfold fw gy;have:=od ny ql (l:=ps) λx R=>ma c x R;have S:bj.getD 256 0<=15:=ja ny dc _;simp only[auU,eg,jj];omega
 refine SX a (by unfold fw;simp only[auU,eg];omega) om λW a=>?_;exact E _ _ y _ 1 a rfl (g1.trans (g3.trans g5)) rfl
theorem Sh {g n:Nat}{k:IntKind}(hi:i < n)(W:ao):(mIA 59 (cW g 0 n cap) (.int k (i:Int))).run ah W=.ok (.value (af g i)) W:=by
 have:=cR (P:=ah) (T:=59) (b:=g) (off:=0) (cap:=cap) (n:=n) (k:=k) (i:=(i:Int)) (w:=W) avJ TC om om
 rwa [auW,avQ,avC] at this
def ir (l:List Nat)(j:Nat):List Nat:=l.set j (l.getD j 0+1)
theorem uf (l:List Nat)(j:Nat):(ir l j).length=l.length:=axM
theorem uh (a:j < l.length)(k:Nat):(ir l j).getD k 0=l.getD k 0+(if j=k then 1 else 0):=by
 unfold ir;rw[auZ];by_cases h:j=k
 ·subst h;rw[axP a];simp
 ·rw[azO h,<-auZ,auO h];rfl
theorem xj {B:Nat}(h:∀i,l.getD i 0<=B):∀c∈l,c<=B:=by
 intro c a;obtain⟨i,hi,rfl⟩:=axT a;have:=h i;rw[auZ,auX hi] at this;exact this
section
variable {w:ao}{PK:PKT}{K:VWP}{S:Nat->Prop}{w0:ao}{L T:List Ent}
theorem aoK (i:Nat){g n:Nat}{k:IntKind}{PK3 PK4 PK5:PKT}{N:ao->Prop}(a:dQ S w0 w L)(hi:L[i]?=ax (lrE g l))(c:l.length=n)(b:j < n)(e:l.getD j 0<=1000000000)(d:∀W,dQ S w0 W (L.set i (lrE g (ir l j)))->N W) :
  DoX ah (mIA 59 (cW g 0 n n) (.int k (j:Int))) w PK λt w=>DoX ah (aG 3 t) w PK2 λt w=>DoX ah (gS .add 3 t (ad 1)) w PK3 λt2 w=>DoX ah (mIA 59 (cW g 0 n n) (.int k (j:Int))) w PK4 λt w=>DoX ah (aV 3 t t2) w PK5 λ_ w=>N w:=by
 subst c;refine aC (Sh b w) |>.mpr ?_;rw[aH aW (a.cell i hi j (Ig b)),FL,aA om om,show ((l.getD j 0:Nat):Int)+1=((l.getD j 0+1:Nat):Int) by omega];refine aC (Sh b w) |>.mpr ?_;refine aK i a hi krx rfl (by rw[dZ];exact b) λw2 a=>?_;rw[H3] at a;exact d w2 a
end
end
end Go.Proofs.YtkghomgfocpgeaaGreatDoor
